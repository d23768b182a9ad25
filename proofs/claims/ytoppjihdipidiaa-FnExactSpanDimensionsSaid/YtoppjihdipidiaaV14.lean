/- What functions of this program compute, as contracts over plain data, with what the proofs need of them. No condition. -/
import Derived.Test.YtoppjihdipidiaaD6
import Derived.Test.YtoppjihdipidiaaV12
set_option linter.all false
namespace Abs.Y
open Go Go.Proofs Abs
open Nat (reduceEqDiff reduceLT reduceAdd reduceMul reduceSub reduceLeDiff reduceSubDiff)
set_option maxRecDepth 100000

theorem AllV.app {p : Int} {n : Nat} {R l : List (List Int)} (h : AllV p n R) (h' : AllV p n l) : AllV p n (R ++ l) := fun x hx => by
  rcases List.mem_append.1 hx with h1 | h1
  · exact h x h1
  · exact h' x h1
theorem SpEq.trans {p : Int} {n : Nat} {R R' R'' : List (List Int)} (h : SpEq p n R R') (h' : SpEq p n R' R'') : SpEq p n R R'' := fun v => (h v).trans (h' v)
theorem SpEq.symm {p : Int} {n : Nat} {R R' : List (List Int)} (h : SpEq p n R R') : SpEq p n R' R := fun v => (h v).symm
theorem Sp.mono {p : Int} {n : Nat} {R R' : List (List Int)} {v : List Int} (h : ∀ r ∈ R, r ∈ R') (hv : Sp p n R v) : Sp p n R' v := by
  induction hv with
  | zero => exact .zero
  | add k _ hr ih => exact .add k ih (h _ hr)
theorem SpEq.app {p : Int} {n : Nat} (hp : 0 < p) {R R' : List (List Int)} (l : List (List Int)) (hR : AllV p n R) (hR' : AllV p n R') (hl : AllV p n l) (h : SpEq p n R R') : SpEq p n (R ++ l) (R' ++ l) := fun v => by
  constructor
  · refine Sp.trans hp (hR'.app hl) fun r hr => ?_
    rcases List.mem_append.1 hr with h1 | h1
    · exact Sp.mono (fun x hx => List.mem_append.2 (.inl hx)) ((h r).1 (Sp.self hp hR h1))
    · exact Sp.self hp (hR'.app hl) (List.mem_append.2 (.inr h1))
  · refine Sp.trans hp (hR.app hl) fun r hr => ?_
    rcases List.mem_append.1 hr with h1 | h1
    · exact Sp.mono (fun x hx => List.mem_append.2 (.inl hx)) ((h r).2 (Sp.self hp hR' h1))
    · exact Sp.self hp (hR.app hl) (List.mem_append.2 (.inr h1))
structure Keep (p : Int) (u : Nat) (S : Type) where
  rows : S → List (List Int)
  inv : S → Prop
  put : S → List Int → S × Bool
  ech : ∀ s, inv s → Ech p (2 ^ u) ldG (rows s)
  ok : ∀ s a, inv s → Vec p (2 ^ u) a → inv (put s a).1 ∧ SpEq p (2 ^ u) (rows (put s a).1) (rows s ++ [a])
  no : ∀ s a, inv s → Vec p (2 ^ u) a → (put s a).2 = false → (put s a).1 = s
  yes : ∀ s a, inv s → Vec p (2 ^ u) a → (put s a).2 = true → (rows (put s a).1).length = (rows s).length + 1
section
variable {p : Int} {u : Nat} {S : Type} (K : Keep p u S)
def Keep.puts (q : S × Bool) (l : List (List Int)) : S × Bool := l.foldl (fun q a => ((K.put q.1 a).1, q.2 || (K.put q.1 a).2)) q
theorem Keep.puts_snoc (q : S × Bool) (l : List (List Int)) (a : List Int) : K.puts q (l ++ [a]) = ((K.put (K.puts q l).1 a).1, (K.puts q l).2 || (K.put (K.puts q l).1 a).2) := by
  unfold Keep.puts; rw [List.foldl_append]; rfl
theorem Keep.puts_app (q : S × Bool) (l l' : List (List Int)) : K.puts q (l ++ l') = K.puts (K.puts q l) l' := by
  unfold Keep.puts; rw [List.foldl_append]
variable (hp : 1 < p) (hu : u ≤ 6)
include hp
theorem Keep.puts_ok : ∀ (l : List (List Int)) (q : S × Bool), K.inv q.1 → AllV p (2 ^ u) l → K.inv (K.puts q l).1 ∧ SpEq p (2 ^ u) (K.rows (K.puts q l).1) (K.rows q.1 ++ l) ∧
    ((K.puts q l).2 = false → q.2 = false ∧ (K.puts q l).1 = q.1 ∧ ∀ a ∈ l, Sp p (2 ^ u) (K.rows q.1) a) ∧ (K.rows q.1).length ≤ (K.rows (K.puts q l).1).length ∧
    ((K.puts q l).2 = true → q.2 = true ∨ (K.rows q.1).length < (K.rows (K.puts q l).1).length)
  | [], q, h, _ => ⟨h, by rw [List.append_nil]; exact fun v => Iff.rfl, fun e => ⟨e, rfl, fun _ h => (by cases h)⟩, Nat.le_refl _, fun e => .inl e⟩
  | a :: l, q, h, hl => by
    have ha := hl a (by simp)
    have hl' : AllV p (2 ^ u) l := fun x hx => hl x (by simp [hx])
    obtain ⟨k1, k2⟩ := K.ok q.1 a h ha
    have k3 := K.no q.1 a h ha
    have k4 := K.yes q.1 a h ha
    obtain ⟨i1, i2, i3, i4, i5⟩ := Keep.puts_ok l ((K.put q.1 a).1, q.2 || (K.put q.1 a).2) k1 hl'
    have e : K.puts q (a :: l) = K.puts ((K.put q.1 a).1, q.2 || (K.put q.1 a).2) l := rfl
    rw [e]
    have hA := (K.ech q.1 h).vec
    have ha1 : AllV p (2 ^ u) [a] := fun x hx => by rw [List.mem_singleton.1 hx]; exact ha
    have hS : SpEq p (2 ^ u) (K.rows (K.puts ((K.put q.1 a).1, q.2 || (K.put q.1 a).2) l).1) (K.rows q.1 ++ a :: l) := by
      refine i2.trans ?_
      have := SpEq.app (by omega) l (K.ech _ k1).vec (hA.app ha1) hl' k2
      rwa [List.append_assoc, List.singleton_append] at this
    cases hb : (K.put q.1 a).2 with
    | false =>
      have e1 := k3 hb
      simp only [hb, e1, Bool.or_false] at i1 i3 i4 i5 hS ⊢
      refine ⟨i1, hS, fun e => ?_, i4, i5⟩
      obtain ⟨j1, j2, j3⟩ := i3 e
      refine ⟨j1, j2, fun x hx => ?_⟩
      rcases List.mem_cons.1 hx with rfl | hx
      · rw [e1] at k2
        exact (k2 x).2 (Sp.self (by omega) (hA.app ha1) (by simp))
      · exact j3 x hx
    | true =>
      have e1 := k4 hb
      simp only [hb, Bool.or_true] at i1 i3 i4 i5 hS ⊢
      refine ⟨i1, hS, fun e => ?_, by omega, fun _ => .inr (by omega)⟩
      have := (i3 e).1
      cases this
def prodsR (p : Int) (u : Nat) (d : Int) (r : List Int) : List (List Int) := if degD r < d then (List.range u).map (fun v => mulX p u r ((v : Nat) + 1 : Int)) else []
def prods (p : Int) (u : Nat) (d : Int) (rows : List (List Int)) : List (List Int) := rows.flatMap (prodsR p u d)
omit hp in
theorem prods_mem {d : Int} {rows : List (List Int)} {a : List Int} : a ∈ prods p u d rows ↔ ∃ r ∈ rows, degD r < d ∧ ∃ x : Int, 1 ≤ x ∧ x ≤ u ∧ a = mulX p u r x := by
  unfold prods prodsR
  rw [List.mem_flatMap]
  constructor
  · rintro ⟨r, hr, ha⟩
    split at ha
    · rename_i hd
      obtain ⟨v, hv, rfl⟩ := List.mem_map.1 ha
      rw [List.mem_range] at hv
      exact ⟨r, hr, hd, (v : Int) + 1, by omega, by omega, rfl⟩
    · cases ha
  · rintro ⟨r, hr, hd, x, h1, h2, rfl⟩
    refine ⟨r, hr, ?_⟩
    rw [if_pos hd]
    exact List.mem_map.2 ⟨(x - 1).toNat, List.mem_range.2 (by omega), by rw [show (((x - 1).toNat : Nat) : Int) + 1 = x by omega]⟩
theorem prods_vec (d : Int) (rows : List (List Int)) : AllV p (2 ^ u) (prods p u d rows) := fun a ha => by
  obtain ⟨r, _, _, x, _, _, rfl⟩ := prods_mem.1 ha
  exact Vec.mulD (by omega) _ _ _
def Keep.round (d : Int) (s : S) : S × Bool := K.puts (s, false) (prods p u d (K.rows s))
def clausesD (p : Int) (u : Nat) (d : Int) (cs : List (List Int)) : List (List Int) := (cs.filter fun c => decide ((c.length : Int) ≤ d)).map (clauseD p u)
theorem clausesD_vec (d : Int) (cs : List (List Int)) : AllV p (2 ^ u) (clausesD p u d cs) := fun a ha => by
  obtain ⟨c, _, rfl⟩ := List.mem_map.1 ha
  exact Vec.clause hp u c
def Keep.base (cs : List (List Int)) (d : Int) (s : S) : S := (K.puts (s, false) (clausesD p u d cs)).1
def Keep.it (d : Int) (s : S) : Nat → S × Bool
  | 0 => (s, true)
  | i + 1 => K.round d (Keep.it d s i).1
theorem Keep.it_inv {d : Int} {s : S} (h : K.inv s) : ∀ i, K.inv (K.it d s i).1
  | 0 => h
  | i + 1 => (K.puts_ok hp _ (_, false) (Keep.it_inv h i) (prods_vec hp d _)).1
theorem Keep.it_stop {d : Int} {s : S} (h : K.inv s) {i : Nat} (hi : (K.it d s i).2 = false) : K.it d s (i + 1) = K.it d s i := by
  cases i with
  | zero => cases hi
  | succ i =>
    have h1 := (K.puts_ok hp _ ((K.it d s i).1, false) (K.it_inv hp h i) (prods_vec hp d (K.rows (K.it d s i).1))).2.2.1 hi
    have e : (K.it d s (i + 1)).1 = (K.it d s i).1 := h1.2.1
    show K.round d (K.it d s (i + 1)).1 = K.round d (K.it d s i).1
    rw [e]
theorem Keep.it_len {d : Int} {s : S} (h : K.inv s) : ∀ i, (K.it d s i).2 = true → i ≤ (K.rows (K.it d s i).1).length
  | 0, _ => Nat.zero_le _
  | i + 1, hi => by
    have h1 := (K.puts_ok hp _ ((K.it d s i).1, false) (K.it_inv hp h i) (prods_vec hp d (K.rows (K.it d s i).1))).2.2.2.2 hi
    have h2 : (K.it d s i).2 = true := by
      cases hb : (K.it d s i).2 with
      | true => rfl
      | false =>
        rw [K.it_stop hp h hb, hb] at hi
        cases hi
    have h3 := Keep.it_len h i h2
    rcases h1 with h1 | h1
    · cases h1
    · change (K.rows (K.it d s i).1).length < (K.rows (K.it d s (i + 1)).1).length at h1
      omega
theorem Keep.it_same {d : Int} {s : S} (h : K.inv s) {i : Nat} (hi : (K.it d s i).2 = false) : ∀ j, K.it d s (i + j) = K.it d s i
  | 0 => rfl
  | j + 1 => by
    have ih := Keep.it_same h hi j
    rw [← Nat.add_assoc, K.it_stop hp h (by rw [ih]; exact hi), ih]
include hu
theorem Keep.it_bd {d : Int} {s : S} (h : K.inv s) {i : Nat} (hi : (K.it d s i).2 = true) : i ≤ 64 := by
  have h1 := K.it_len hp h i hi
  have h2 := pow_le6 hu
  have h3 := ech_bd h2 (K.ech _ (K.it_inv hp h (d := d) i))
  omega
theorem Keep.it_65 {d : Int} {s : S} (h : K.inv s) : (K.it d s 65).2 = false := by
  cases hb : (K.it d s 65).2 with
  | false => rfl
  | true => exact absurd (K.it_bd hp hu h hb) (by decide)
theorem Keep.it_end {d : Int} {s : S} (h : K.inv s) {i : Nat} (hi : (K.it d s i).2 = false) : (K.it d s i).1 = (K.it d s 65).1 := by
  by_cases hle : i ≤ 65
  · have := K.it_same hp h hi (65 - i)
    rw [show i + (65 - i) = 65 by omega] at this
    rw [this]
  · have := K.it_same hp h (K.it_65 hp hu h (d := d)) (i - 65)
    rw [show 65 + (i - 65) = i by omega] at this
    rw [this]
def Keep.fin (cs : List (List Int)) (d : Int) (s : S) : S := (K.it d (K.base cs d s) 65).1
theorem Keep.fin_ok {cs : List (List Int)} {d : Int} {s : S} (h : K.inv s) (h0 : K.rows s = []) : K.inv (K.fin cs d s) ∧ ∀ v, Sp p (2 ^ u) (K.rows (K.fin cs d s)) v ↔ Mn p u cs d v := by
  obtain ⟨b1, b2, _⟩ := K.puts_ok hp _ (s, false) h (clausesD_vec hp d cs)
  have hb : K.inv (K.base cs d s) := b1
  have hbS : SpEq p (2 ^ u) (K.rows (K.base cs d s)) (clausesD p u d cs) := by
    have : SpEq p (2 ^ u) (K.rows (K.base cs d s)) (K.rows s ++ clausesD p u d cs) := b2
    rwa [h0, List.nil_append] at this
  have hinv := fun i => K.it_inv hp hb (d := d) i
  have hstep : ∀ i, SpEq p (2 ^ u) (K.rows (K.it d (K.base cs d s) (i + 1)).1) (K.rows (K.it d (K.base cs d s) i).1 ++ prods p u d (K.rows (K.it d (K.base cs d s) i).1)) := fun i => (K.puts_ok hp _ ((K.it d (K.base cs d s) i).1, false) (hinv i) (prods_vec hp d _)).2.1
  have hmn : ∀ i, ∀ r ∈ K.rows (K.it d (K.base cs d s) i).1, Mn p u cs d r := by
    intro i
    induction i with
    | zero =>
      intro r hr
      refine mn_sp (by omega) (clausesD_vec hp d cs) (fun c hc => ?_) ((hbS r).1 (Sp.self (by omega) (K.ech _ hb).vec hr))
      obtain ⟨x, hx, rfl⟩ := List.mem_map.1 hc
      obtain ⟨hx1, hx2⟩ := List.mem_filter.1 hx
      exact fun W hW => hW.cl x hx1 (by simpa using hx2)
    | succ i ih =>
      intro r hr
      have hv := (K.ech _ (hinv i)).vec
      refine mn_sp (by omega) (hv.app (prods_vec hp d _)) (fun c hc => ?_) ((hstep i r).1 (Sp.self (by omega) (K.ech _ (hinv (i + 1))).vec hr))
      rcases List.mem_append.1 hc with hc | hc
      · exact ih c hc
      · obtain ⟨q, hq, hd, x, h1, h2, rfl⟩ := prods_mem.1 hc
        exact fun W hW => hW.mul q (hv q hq) (ih q hq W hW) hd x h1 h2
  have hcl : ∀ i, ∀ c ∈ cs, (c.length : Int) ≤ d → Sp p (2 ^ u) (K.rows (K.it d (K.base cs d s) i).1) (clauseD p u c) := by
    intro i
    induction i with
    | zero =>
      intro c hc hd
      exact (hbS _).2 (Sp.self (by omega) (clausesD_vec hp d cs) (List.mem_map_of_mem (List.mem_filter.2 ⟨hc, by simpa using hd⟩)))
    | succ i ih =>
      intro c hc hd
      exact (hstep i _).2 (Sp.mono (fun x hx => List.mem_append.2 (.inl hx)) (ih c hc hd))
  refine ⟨hinv 65, sp_least hp hu (K.ech _ (hinv 65)) (hmn 65) (hcl 65) fun r hr hd x h1 h2 => ?_⟩
  have h65 := K.it_65 hp hu hb (d := d)
  have hs := (K.puts_ok hp _ ((K.it d (K.base cs d s) 65).1, false) (hinv 65) (prods_vec hp d (K.rows (K.it d (K.base cs d s) 65).1))).2.2.1 (by
    have : K.it d (K.base cs d s) 66 = K.it d (K.base cs d s) 65 := K.it_stop hp hb h65
    change (K.it d (K.base cs d s) 66).2 = false
    rw [this]; exact h65)
  exact hs.2.2 _ (prods_mem.2 ⟨r, hr, hd, x, h1, h2, rfl⟩)
end
def Closed (p : Int) (u : Nat) (d : Int) (R : List (List Int)) : Prop := ∀ a ∈ prods p u d R, Sp p (2 ^ u) R a
end Abs.Y

namespace Abs.Y
open Go Go.Proofs Abs
open Nat (reduceEqDiff reduceLT reduceAdd reduceMul reduceSub reduceLeDiff reduceSubDiff)
set_option maxRecDepth 100000

def restR (p : Int) (R : List (List Int)) (a : List Int) : List Int := redD p ldG R.reverse a
def putStep (p : Int) (lead : Nat) (row : List Int) (s : List (List Int) × Bool) (r : List Int) : List (List Int) × Bool :=
  if s.2 = false ∧ kG lead < kG (ldG r) then (s.1 ++ [row] ++ [clr p lead row r], true) else (s.1 ++ [clr p lead row r], s.2)
def putQ (p : Int) (lead : Nat) (row : List Int) (R : List (List Int)) (k : Nat) : List (List Int) × Bool := (R.take k).foldl (putStep p lead row) ([], false)
theorem putQ_succ (p : Int) (lead : Nat) (row : List Int) (R : List (List Int)) {k : Nat} (h : k < R.length) : putQ p lead row R (k + 1) = putStep p lead row (putQ p lead row R k) (R.getD k []) := by
  rw [putQ, take_succ [] R k h, List.foldl_append]; rfl
def rowR (p : Int) (u : Nat) (R : List (List Int)) (a : List Int) : List Int := addD p (invN p ((restR p R a).getD (ldG (restR p R a)) 0)) (List.replicate (2 ^ u) 0) (restR p R a)
def putR (p : Int) (u : Nat) (R : List (List Int)) (a : List Int) : List (List Int) × Bool :=
  if ldI (restR p R a) < 0 then (R, false)
  else (let s := putQ p (ldG (restR p R a)) (rowR p u R a) R R.length; if s.2 then s.1 else s.1 ++ [rowR p u R a], true)
structure EchB (p : Int) (u : Nat) (R : List (List Int)) : Prop where
  ech : Ech p (2 ^ u) ldG R
  srt : R.Pairwise fun r s => kG (ldG r) < kG (ldG s)
theorem EchB.nil {p : Int} {u : Nat} : EchB p u [] := ⟨.nil, .nil⟩
theorem putQ_at (p : Int) (lead : Nat) (row : List Int) (R : List (List Int)) : ∀ k, k ≤ R.length →
    ((putQ p lead row R k).2 = false → (putQ p lead row R k).1 = (R.take k).map (clr p lead row) ∧ ∀ r ∈ R.take k, ¬ kG lead < kG (ldG r)) ∧
    ((putQ p lead row R k).2 = true → ∃ j, j < k ∧ (putQ p lead row R k).1 = (R.take j).map (clr p lead row) ++ row :: ((R.drop j).take (k - j)).map (clr p lead row) ∧ (∀ r ∈ R.take j, ¬ kG lead < kG (ldG r)) ∧ kG lead < kG (ldG (R.getD j [])))
  | 0, _ => ⟨fun _ => ⟨by simp [putQ], by simp⟩, fun h => by simp [putQ] at h⟩
  | k + 1, hk => by
    obtain ⟨h1, h2⟩ := putQ_at p lead row R k (by omega)
    rw [putQ_succ p lead row R (by omega)]
    have et := take_succ [] R k (by omega)
    generalize putQ p lead row R k = s at *
    obtain ⟨o, b⟩ := s
    simp only at h1 h2
    unfold putStep
    simp only
    cases b with
    | false =>
      obtain ⟨e1, e2⟩ := h1 rfl
      by_cases hl : kG lead < kG (ldG (R.getD k []))
      · rw [if_pos ⟨rfl, hl⟩]
        refine ⟨fun h => (by cases h), fun _ => ⟨k, by omega, ?_, e2, hl⟩⟩
        have : (R.drop k).take (k + 1 - k) = [R.getD k []] := by
          rw [show k + 1 - k = 1 by omega, List.drop_eq_getElem_cons (by omega), List.take_succ_cons, List.take_zero, List.getD_eq_getElem?_getD, List.getElem?_eq_getElem (by omega)]; rfl
        rw [this, e1]
        simp
      · rw [if_neg (fun h => hl h.2)]
        refine ⟨fun _ => ⟨by rw [e1, et, List.map_append]; rfl, fun r hr => ?_⟩, fun h => by cases h⟩
        rw [et] at hr
        rcases List.mem_append.1 hr with hr | hr
        · exact e2 r hr
        · rw [List.mem_singleton.1 hr]; exact hl
    | true =>
      obtain ⟨j, hj, e1, e2, e3⟩ := h2 rfl
      rw [if_neg (fun h => by cases h.1)]
      refine ⟨fun h => (by cases h), fun _ => ⟨j, by omega, ?_, e2, e3⟩⟩
      have : (R.drop j).take (k + 1 - j) = (R.drop j).take (k - j) ++ [R.getD k []] := by
        rw [show k + 1 - j = (k - j) + 1 by omega, take_succ [] (R.drop j) (k - j) (by rw [List.length_drop]; omega)]
        congr 2
        rw [List.getD_eq_getElem?_getD, List.getElem?_drop, show j + (k - j) = k by omega, List.getD_eq_getElem?_getD]
      rw [this, e1]
      simp
section
variable {p : Int} {u : Nat} (hp : p = 2 ∨ p = 3 ∨ p = 5) (hu : u ≤ 6)
include hp hu
theorem restR_facts {R : List (List Int)} {a : List Int} (h : Ech p (2 ^ u) ldG R) (ha : Vec p (2 ^ u) a) : Vec p (2 ^ u) (restR p R a) ∧ (ldI (restR p R a) < 0 ↔ Sp p (2 ^ u) R a) ∧ ∀ r ∈ R, (restR p R a).getD (ldG r) 0 = 0 := by
  have hr : Ech p (2 ^ u) ldG R.reverse := h.perm (List.reverse_perm R).symm
  have h1 : Vec p (2 ^ u) (restR p R a) := redD_vec (p := p) (by omega) ldG hr.vec ha
  refine ⟨h1, ?_, fun r hm => redD_lead (by omega) ldG hr.vec hr.tri ha r (List.mem_reverse.2 hm)⟩
  rw [ldI_neg, ← vec_zero_iff (p := p) h1.1]
  unfold restR
  rw [red_iff (by omega) ldG hr.vec hr.tri ha]
  exact SpEq.perm (by omega) hr.vec (List.reverse_perm R) a
theorem restR_nz {R : List (List Int)} {a : List Int} (h : Ech p (2 ^ u) ldG R) (ha : Vec p (2 ^ u) a) (hl : ¬ ldI (restR p R a) < 0) : 0 < (restR p R a).getD (ldG (restR p R a)) 0 ∧ (restR p R a).getD (ldG (restR p R a)) 0 < p ∧ ldG (restR p R a) < 2 ^ u := by
  obtain ⟨h1, _⟩ := restR_facts hp hu h ha
  obtain ⟨h2, h3, h4, _⟩ := (ldI_or (restR p R a)).resolve_left fun h => hl (by rw [h.1]; decide)
  have := h1.2 (ldG (restR p R a))
  exact ⟨by omega, this.2, by rw [← h1.1]; exact h3⟩
theorem putR_ok {R : List (List Int)} {a : List Int} (h : EchB p u R) (ha : Vec p (2 ^ u) a) : EchB p u (putR p u R a).1 ∧ SpEq p (2 ^ u) (putR p u R a).1 (R ++ [a]) ∧ ((putR p u R a).2 = false → (putR p u R a).1 = R) ∧ ((putR p u R a).2 = true → (putR p u R a).1.length = R.length + 1) := by
  have h64 := pow_le6 hu
  have hp1 : 1 < p := by omega
  obtain ⟨h1, hiff, hlead⟩ := restR_facts hp hu h.ech ha
  have hA : AllV p (2 ^ u) (R ++ [a]) := fun x hx => by
    rcases List.mem_append.1 hx with h4 | h4
    · exact h.ech.vec x h4
    · rw [List.mem_singleton.1 h4]; exact ha
  by_cases hl : ldI (restR p R a) < 0
  · unfold putR
    rw [if_pos hl]
    refine ⟨h, fun v => ⟨Sp.trans (by omega) hA fun r hr => Sp.self (by omega) hA (List.mem_append.2 (.inl hr)), Sp.trans (by omega) h.ech.vec fun r hr => ?_⟩, fun _ => rfl, fun h => (by cases h)⟩
    rcases List.mem_append.1 hr with h4 | h4
    · exact Sp.self (by omega) h.ech.vec h4
    · rw [List.mem_singleton.1 h4]; exact hiff.1 hl
  · obtain ⟨n1, n2, n3⟩ := restR_nz hp hu h.ech ha hl
    obtain ⟨i1, i2, i3, _⟩ := invN_ok hp ⟨n1, n2⟩
    have hkey := Ech.add (κ := kG) hp1 (lds_G h64) h.ech h1 (k := invN p ((restR p R a).getD (ldG (restR p R a)) 0)) hlead (by omega) (by rw [Int.mul_comm]; exact i3)
    change Vec p (2 ^ u) (rowR p u R a) ∧ ldG (rowR p u R a) = _ ∧ (∀ r ∈ R, ldG (clr p (ldG (restR p R a)) (rowR p u R a) r) = ldG r) ∧ Ech p (2 ^ u) ldG (R.map (clr p (ldG (restR p R a)) (rowR p u R a)) ++ [rowR p u R a]) at hkey
    obtain ⟨hrow, hld, hcd, hech⟩ := hkey
    have hspan : SpEq p (2 ^ u) (R.map (clr p (ldG (restR p R a)) (rowR p u R a)) ++ [rowR p u R a]) (R ++ [a]) := by
      have hr : Ech p (2 ^ u) ldG R.reverse := h.ech.perm (List.reverse_perm R).symm
      refine (sp_clr (p := p) (by omega) (ldG (restR p R a)) h.ech.vec hrow).trans ?_
      have e1 : SpEq p (2 ^ u) (R.reverse ++ [rowR p u R a]) (R.reverse ++ [a]) := sp_tri (p := p) (by omega) ldG hr.vec ha (k := invN p ((restR p R a).getD (ldG (restR p R a)) 0)) (c := (restR p R a).getD (ldG (restR p R a)) 0) (by rw [Int.mul_comm]; exact i3)
      have hB : AllV p (2 ^ u) (R ++ [rowR p u R a]) := h.ech.vec.app fun x hx => by rw [List.mem_singleton.1 hx]; exact hrow
      exact ((SpEq.perm (by omega) hB ((List.reverse_perm R).symm.append_right _)).trans e1).trans (SpEq.perm (by omega) hA ((List.reverse_perm R).symm.append_right _)).symm
    have hne : ∀ r ∈ R, ldG r ≠ ldG (restR p R a) := fun r hr e => by
      have := hlead r hr
      rw [e] at this
      omega
    have hfin : ∃ j, j ≤ R.length ∧ (putR p u R a).1 = (R.take j).map (clr p (ldG (restR p R a)) (rowR p u R a)) ++ rowR p u R a :: (R.drop j).map (clr p (ldG (restR p R a)) (rowR p u R a)) ∧ (∀ r ∈ R.take j, ¬ kG (ldG (restR p R a)) < kG (ldG r)) ∧ (j < R.length → kG (ldG (restR p R a)) < kG (ldG (R.getD j []))) := by
      obtain ⟨q1, q2⟩ := putQ_at p (ldG (restR p R a)) (rowR p u R a) R R.length (Nat.le_refl _)
      unfold putR
      rw [if_neg hl]
      simp only
      cases hb : (putQ p (ldG (restR p R a)) (rowR p u R a) R R.length).2 with
      | false =>
        obtain ⟨e1, e2⟩ := q1 hb
        rw [if_neg (by decide), e1]
        refine ⟨R.length, Nat.le_refl _, by simp, e2, fun h => by omega⟩
      | true =>
        obtain ⟨j, hj, e1, e2, e3⟩ := q2 hb
        have ht : (R.drop j).take (R.length - j) = R.drop j := List.take_of_length_le (by rw [List.length_drop]; omega)
        rw [if_pos rfl, e1, ht]
        exact ⟨j, by omega, rfl, e2, fun _ => e3⟩
    have h2 : (putR p u R a).2 = true := by unfold putR; rw [if_neg hl]
    obtain ⟨j, hj, e1, e2, e3⟩ := hfin
    have hperm : (R.map (clr p (ldG (restR p R a)) (rowR p u R a)) ++ [rowR p u R a]).Perm (putR p u R a).1 := by
      rw [e1]
      refine (List.perm_append_comm (l₁ := R.map _) (l₂ := [rowR p u R a])).trans ?_
      rw [List.singleton_append]
      refine List.Perm.trans ?_ (List.perm_middle).symm
      rw [← List.map_append, List.take_append_drop]
    refine ⟨⟨hech.perm hperm, ?_⟩, ?_, fun h => (by rw [h2] at h; cases h), fun _ => ?_⟩
    · rw [e1]
      have hs := h.srt
      rw [← List.take_append_drop j R, List.pairwise_append] at hs
      obtain ⟨s1, s2, s3⟩ := hs
      have ht : ∀ r ∈ R.take j, kG (ldG r) < kG (ldG (restR p R a)) := fun r hr => by
        have h5 := e2 r hr
        have h6 := List.mem_of_mem_take hr
        have h7 : kG (ldG r) ≠ kG (ldG (restR p R a)) := fun e => by
          obtain ⟨_, h8, _⟩ := (ldI_or r).resolve_left fun e => h.ech.nz h6 (by rw [e.1]; decide)
          exact hne r h6 (kG_inj (by have := (h.ech.vec r h6).1; omega) (by omega) e)
        omega
      have hd : ∀ r ∈ R.drop j, kG (ldG (restR p R a)) < kG (ldG r) := fun r hr => by
        by_cases hjl : j < R.length
        · have h5 := e3 hjl
          rw [List.drop_eq_getElem_cons hjl] at hr s2
          have e4 : R.getD j [] = R[j] := by rw [List.getD_eq_getElem?_getD, List.getElem?_eq_getElem hjl]; rfl
          rw [e4] at h5
          rcases List.mem_cons.1 hr with rfl | hr
          · exact h5
          · have := (List.pairwise_cons.1 s2).1 r hr; omega
        · rw [List.drop_of_length_le (by omega)] at hr; cases hr
      rw [List.pairwise_append]
      refine ⟨?_, ?_, ?_⟩
      · rw [List.pairwise_map]
        refine List.Pairwise.imp_of_mem (fun {x y} hx hy hxy => ?_) s1
        rw [hcd x (List.mem_of_mem_take hx), hcd y (List.mem_of_mem_take hy)]; exact hxy
      · rw [List.pairwise_cons]
        refine ⟨fun x hx => ?_, ?_⟩
        · obtain ⟨r, hr, rfl⟩ := List.mem_map.1 hx
          rw [hcd r (List.mem_of_mem_drop hr), hld]; exact hd r hr
        · rw [List.pairwise_map]
          refine List.Pairwise.imp_of_mem (fun {x y} hx hy hxy => ?_) s2
          rw [hcd x (List.mem_of_mem_drop hx), hcd y (List.mem_of_mem_drop hy)]; exact hxy
      · intro x hx y hy
        obtain ⟨r, hr, rfl⟩ := List.mem_map.1 hx
        have h8 := ht r hr
        rw [hcd r (List.mem_of_mem_take hr)]
        rcases List.mem_cons.1 hy with rfl | hy
        · rw [hld]; exact h8
        · obtain ⟨s, hs, rfl⟩ := List.mem_map.1 hy
          have h9 := hd s hs
          rw [hcd s (List.mem_of_mem_drop hs)]; omega
    · exact (SpEq.perm (by omega) hech.vec hperm).symm.trans hspan
    · have := hperm.length_eq
      simp only [List.length_append, List.length_map, List.length_singleton] at this
      omega
end
def keepR (p : Int) (u : Nat) (hp : p = 2 ∨ p = 3 ∨ p = 5) (hu : u ≤ 6) : Keep p u (List (List Int)) where
  rows := id
  inv := EchB p u
  put := putR p u
  ech := fun _ h => h.ech
  ok := fun _ _ h ha => ⟨(putR_ok hp hu h ha).1, (putR_ok hp hu h ha).2.1⟩
  no := fun _ _ h ha => (putR_ok hp hu h ha).2.2.1
  yes := fun _ _ h ha => (putR_ok hp hu h ha).2.2.2
end Abs.Y

namespace Abs.Y
open Go Go.Proofs Abs
open Nat (reduceEqDiff reduceLT reduceAdd reduceMul reduceSub reduceLeDiff reduceSubDiff)
set_option maxRecDepth 100000

def Barr (p : Int) (u : Nat) (d : Int) (cs L : List (List Int)) (R : List (List Int)) : Prop :=
  (∀ a ∈ L, degD a ≤ d) ∧ (∀ a ∈ clausesD p u d cs, Sp p (2 ^ u) R a) ∧ Closed p u d R ∧ ¬ Sp p (2 ^ u) R (monoD u 0)
end Abs.Y

namespace Abs.Y
open Go Go.Proofs Abs
open Nat (reduceEqDiff reduceLT reduceAdd reduceMul reduceSub reduceLeDiff reduceSubDiff)
set_option maxRecDepth 100000

section
variable {p : Int} {u : Nat} (hp : 1 < p ∧ p ≤ 5) (hu : u ≤ 6)
include hp hu
end
end Abs.Y

namespace Abs.Y
open Go Go.Proofs Abs
open Nat (reduceEqDiff reduceLT reduceAdd reduceMul reduceSub reduceLeDiff reduceSubDiff)
set_option maxRecDepth 100000

def sumC (p : Int) (u : Nat) (cs : List (List Int)) (list : List (List (Int × Int))) (k : Nat) : List Int :=
  (List.range k).foldl (fun v i => addD p 1 v (mulD p (2 ^ u) (dnT (2 ^ u) (list.getD i [])) (clauseD p u (cs.getD i [])))) (List.replicate (2 ^ u) 0)
theorem sp_zero : ∀ u, u < 7 → spT (List.replicate (2 ^ u) 0) = [] := by decide +kernel
section
variable {p : Int} {u : Nat} (hp : 1 < p ∧ p ≤ 5) (hu : u ≤ 6)
include hp hu
end
end Abs.Y
