/- What functions of this program compute, as contracts over plain data, with what the proofs need of them. No condition. -/
import Derived.Test.YtfaamimlkogcpaaGreatD10
import Derived.Test.YtfaamimlkogcpaaGreatD5
import Derived.Test.YtfaamimlkogcpaaGreatD9
import Derived.Test.YtfaamimlkogcpaaGreatAbsShelf
import Derived.Test.YtfaamimlkogcpaaGreatV15
import Derived.Test.YtfaamimlkogcpaaGreatH2
set_option linter.all false
namespace Abs.Y
open Go Go.Proofs Abs
open Nat renaming reduceEqDiff → zqa, reduceLT → zqb, reduceAdd → zqc, reduceMul → zqd, reduceSub → zqe, reduceLeDiff → zqf, reduceSubDiff → zqg, reduceBEq → zqh
open Bool renaming not_eq_true' → zba, not_eq_false' → zbb, and_eq_true → zbc, or_eq_true → zbd, or_eq_false_iff → zbe
open Int renaming ofNat_lt → zia, ofNat_le → zib, not_lt → zic, not_le → zid
open Decidable renaming not_not → zda
set_option maxRecDepth 100000

theorem degreeOk_ok (d : Int) : Ctr Tryz.prog 24 [.int .i64 d] false (.d (.bool (degB d))) [] := by
  have c1 := within_ok d 0 6
  unfold degB
  refine Ctr.of (n := 5) (rs := [.tmp 2]) Tryz.func24 rfl rfl Tryz.ntmps24 rfl rfl (by kernel_rfl) Tryz.checked.mixed ?_
  simp (disch := first | omega | decide +kernel) only [go_sem, zqa, zqb, zqc, zqd, zqe, ↓reduceIte, reduceCtorEq, zqf, zqg, zqh]
  (repeat' (first | ((first | (refine gsel_split (fun q' => ?_) (fun q' => ?_) <;> (have h' := q') <;> (try simp only [decide_eq_true_eq, decide_eq_false_iff_not, zba, zbb, bne_iff_ne, ne_eq, beq_iff_eq, bne_eq_false_iff_eq, beq_eq_false_iff_ne, zia, zib, zic, zid, zda, zbc, zbd, zbe, gt_iff_lt, ge_iff_le] at h') <;> try (exfalso; omega)) | (have q' := trivial; first | refine callX_new (c1) rfl (by decide) ?_ | refine callY_new (c1) rfl ?_ | refine hE _ _ ret_ne ?_ | refine hE _ _ exit_ne ?_)) <;> (try simp (disch := first | omega | decide +kernel) only [q', go_sem, zqa, zqb, zqc, zqd, zqe, ↓reduceIte, reduceCtorEq, zqf, zqg, zqh]) <;> clear q') | (refine hN _ ?_ ?_ Wk.kk) | (with_reducible refine And.intro ?_ ?_) | (with_reducible omega) | (exact ok_ints) | (exact cells_ints) | (exact no_mem) | (with_reducible exact plain_ints) | (refine le_maxLen ?_; omega) | (refine List.forall_mem_cons.2 ⟨?_, ?_⟩) | (simp only [go_sem, zqc, zqb, List.mem_cons, List.not_mem_nil, forall_eq]; done)))
  all_goals (first | omega)
theorem redQ_zero {p : Int} {u : Nat} {R M : List (List Int)} {many : Nat} {a : List Int} (hp : 0 < p) (h : Ech p (2 ^ u) ldG R) (ha : Vec p (2 ^ u) a) {t : Bool} (ht : t = true ↔ Sp p (2 ^ u) R a) : decide (degD (redQ p R M a many R.length).1 < 0) = t := by
  have h1 := (redQ_vec hp (M := M) (many := many) h.vec ha R.length (Nat.le_refl _)).1
  have h2 := redQ_red hp (M := M) (many := many) h.vec ha R.length (Nat.le_refl _)
  rw [List.take_length] at h2
  have key : degD (redQ p R M a many R.length).1 < 0 ↔ t = true := by
    rw [← deg_eq, degT_neg, spT_nil, ldI_neg, ← vec_zero_iff (p := p) h1.1, h2, red_iff hp ldG h.vec h.tri ha, ht]
  cases t with
  | true => exact decide_eq_true (key.2 rfl)
  | false => exact decide_eq_false fun e => by cases key.1 e
section
variable {p : Int} {u : Nat} (hp : 1 < p ∧ p ≤ 5) (hu : u ≤ 6)
include hp hu
end
end Abs.Y

namespace Abs.Y
open Go Go.Proofs Abs
open Nat renaming reduceEqDiff → zqa, reduceLT → zqb, reduceAdd → zqc, reduceMul → zqd, reduceSub → zqe, reduceLeDiff → zqf, reduceSubDiff → zqg, reduceBEq → zqh
open Bool renaming not_eq_true' → zba, not_eq_false' → zbb, and_eq_true → zbc, or_eq_true → zbd, or_eq_false_iff → zbe
open Int renaming ofNat_lt → zia, ofNat_le → zib, not_lt → zic, not_le → zid
open Decidable renaming not_not → zda
set_option maxRecDepth 100000

def degC (cs : List (List Int)) (list : List (List (Int × Int))) (k : Nat) : Int :=
  (List.range k).foldl (fun d i => if list.getD i [] = [] then d else max d (degT (list.getD i []) + ((cs.getD i []).length : Int))) 0
def certB (p v : Int) (cs : List (List Int)) (list : List (List (Int × Int))) : Bool := goodL p v cs list && decide (sumC p v.toNat cs list list.length = monoD v.toNat 0)
def certV (p v : Int) (cs : List (List Int)) (list : List (List (Int × Int))) : Int := if certB p v cs list then degC cs list list.length else 0
end Abs.Y

namespace Abs.Y
open Go Go.Proofs Abs
open Nat renaming reduceEqDiff → zqa, reduceLT → zqb, reduceAdd → zqc, reduceMul → zqd, reduceSub → zqe, reduceLeDiff → zqf, reduceSubDiff → zqg, reduceBEq → zqh
open Bool renaming not_eq_true' → zba, not_eq_false' → zbb, and_eq_true → zbc, or_eq_true → zbd, or_eq_false_iff → zbe
open Int renaming ofNat_lt → zia, ofNat_le → zib, not_lt → zic, not_le → zid
open Decidable renaming not_not → zda
set_option maxRecDepth 100000

end Abs.Y

namespace Abs.Y
open Go Go.Proofs Abs
open Nat renaming reduceEqDiff → zqa, reduceLT → zqb, reduceAdd → zqc, reduceMul → zqd, reduceSub → zqe, reduceLeDiff → zqf, reduceSubDiff → zqg, reduceBEq → zqh
open Bool renaming not_eq_true' → zba, not_eq_false' → zbb, and_eq_true → zbc, or_eq_true → zbd, or_eq_false_iff → zbe
open Int renaming ofNat_lt → zia, ofNat_le → zib, not_lt → zic, not_le → zid
open Decidable renaming not_not → zda
set_option maxRecDepth 100000

theorem bool_ex (P : Prop) : ∃ b : Bool, b = true ↔ P := by
  by_cases h : P
  · exact ⟨true, by simp [h]⟩
  · exact ⟨false, by simp [h]⟩
@[reducible] def echN (k0 k1 k2 : Nat) (p : Int) (u : Nat) (e : EchS) : List (Nat × AO) :=
  [(k2, .dp (some (56, 1)) (e.M.map D.ints) none), (k1, .arr 56 1 (e.R.map D.ints)), (k0, .box 68 [.d (.int .i64 p), .d (.int .i64 u), .sl k1, .sl k2, .d (.int .i64 (e.many : Nat))])]
section
variable {p : Int} {u : Nat} (hp : p = 2 ∨ p = 3 ∨ p = 5) (hu : u ≤ 6)
def echL (L : List (List Int)) : EchS := L.foldl (fun e a => addE p u e a) ⟨[], [], 0⟩
include hp hu
end
def okBar (p v : Int) (cs : List (List Int)) (d : Int) (list : List (List (Int × Int))) : Bool :=
  (((primeB p v && okCnf v cs) && degB d) && decide (list.length ≤ 64)) && list.all (isT p (2 ^ v.toNat))
def BarP (p v : Int) (cs : List (List Int)) (d : Int) (list : List (List (Int × Int))) : Prop :=
  okBar p v cs d list = true ∧ ∃ R, Ech p (2 ^ v.toNat) ldG R ∧ SpEq p (2 ^ v.toNat) R (list.map (dnT (2 ^ v.toNat))) ∧ Barr p v.toNat d cs (list.map (dnT (2 ^ v.toNat))) R
end Abs.Y

namespace Abs
open Go Go.Proofs
end Abs
namespace Abs.Y
open Go Go.Proofs Abs
open Nat renaming reduceEqDiff → zqa, reduceLT → zqb, reduceAdd → zqc, reduceMul → zqd, reduceSub → zqe, reduceLeDiff → zqf, reduceSubDiff → zqg, reduceBEq → zqh
open Bool renaming not_eq_true' → zba, not_eq_false' → zbb, and_eq_true → zbc, or_eq_true → zbd, or_eq_false_iff → zbe
open Int renaming ofNat_lt → zia, ofNat_le → zib, not_lt → zic, not_le → zid
open Decidable renaming not_not → zda
set_option maxRecDepth 100000

def keepI (p : Int) (u : Nat) (s : EchS × List Pr) (t : Pr) : EchS × List Pr := (addE p u s.1 t.2.2, if ldI (restE p s.1 t.2.2) < 0 then s.2 else s.2 ++ [t])
def indS (p : Int) (u : Nat) (ts : List Pr) : EchS × List Pr := ts.foldl (keepI p u) (⟨[], [], 0⟩, [])
theorem indS_succ (p : Int) (u : Nat) (ts : List Pr) {i : Nat} (h : i < ts.length) : indS p u (ts.take (i + 1)) = keepI p u (indS p u (ts.take i)) (ts.getD i (0, 0, [])) := by
  unfold indS
  rw [take_succ (0, 0, []) ts i h, List.foldl_append]; rfl
theorem indS_ok {p : Int} {u : Nat} (hp : p = 2 ∨ p = 3 ∨ p = 5) (hu : u ≤ 6) {ts : List Pr} (hts : ∀ t ∈ ts, Vec p (2 ^ u) t.2.2) : ∀ i, i ≤ ts.length → EchI p u (indS p u (ts.take i)).1 ∧ (indS p u (ts.take i)).2.length = (indS p u (ts.take i)).1.R.length ∧ SpEq p (2 ^ u) (indS p u (ts.take i)).1.R ((ts.take i).map fun t => t.2.2) ∧ ∀ t ∈ (indS p u (ts.take i)).2, t ∈ ts
  | 0, _ => ⟨EchI.nil, rfl, fun _ => Iff.rfl, fun _ h => (by cases h)⟩
  | i + 1, hi => by
    obtain ⟨h1, h2, h3, h9⟩ := indS_ok hp hu hts i (by omega)
    have hm := getD_mem (z := ((0, 0, []) : Pr)) (l := ts) (i := i) (by omega)
    have hv := hts _ hm
    obtain ⟨h4, h5, _⟩ := addE_ok hp hu h1 hv
    have hA : AllV p (2 ^ u) ((ts.take i).map fun t => t.2.2) := fun a ha => by
      obtain ⟨t, ht, rfl⟩ := List.mem_map.1 ha
      exact hts t (List.mem_of_mem_take ht)
    rw [indS_succ p u ts (by omega), take_succ (0, 0, []) ts i (by omega), List.map_append]
    refine ⟨h4, ?_, h5.trans (SpEq.app (by omega) _ h1.ech.vec hA (fun x hx => by
      simp only [List.map_cons, List.map_nil, List.mem_singleton] at hx; rw [hx]; exact hv) h3), fun t ht => ?_⟩
    · unfold keepI addE
      simp only
      split
      · exact h2
      · simp [h2]
    · unfold keepI at ht
      simp only at ht
      split at ht
      · exact h9 t ht
      · rcases List.mem_append.1 ht with h6 | h6
        · exact h9 t h6
        · rw [List.mem_singleton.1 h6]; exact hm
def indP (p : Int) (u : Nat) (cs : List (List Int)) (d : Int) : EchS × List Pr := indS p u (prK p u (gradI (2 ^ u)) cs d cs.length)
theorem indP_ok {p : Int} {u : Nat} (hp : p = 2 ∨ p = 3 ∨ p = 5) (hu : u ≤ 6) (cs : List (List Int)) (d : Int) : EchI p u (indP p u cs d).1 ∧ (indP p u cs d).2.length = (indP p u cs d).1.R.length ∧ SpEq p (2 ^ u) (indP p u cs d).1.R (prodsP p u (gradI (2 ^ u)) cs d) ∧ ∀ t ∈ (indP p u cs d).2, t ∈ prK p u (gradI (2 ^ u)) cs d cs.length := by
  have hpv : ∀ t ∈ prK p u (gradI (2 ^ u)) cs d cs.length, Vec p (2 ^ u) t.2.2 := fun t ht => by
    unfold prK at ht
    rw [List.mem_flatMap] at ht
    obtain ⟨i, _, h⟩ := ht
    unfold prI at h
    split at h
    · rw [List.mem_map] at h
      obtain ⟨m, _, rfl⟩ := h
      exact prodC_vec (by omega) u _ m
    · cases h
  have h := indS_ok hp hu hpv _ (Nat.le_refl _)
  rw [List.take_length, prK_polys p u _ cs d _ (Nat.le_refl _), List.take_length] at h
  exact h
section
variable {p : Int} {u : Nat} (hp : p = 2 ∨ p = 3 ∨ p = 5) (hu : u ≤ 6)
include hp hu
end
end Abs.Y

namespace Abs
open Go Go.Proofs
end Abs
namespace Abs.Y
open Go Go.Proofs Abs
open Nat renaming reduceEqDiff → zqa, reduceLT → zqb, reduceAdd → zqc, reduceMul → zqd, reduceSub → zqe, reduceLeDiff → zqf, reduceSubDiff → zqg, reduceBEq → zqh
open Bool renaming not_eq_true' → zba, not_eq_false' → zbb, and_eq_true → zbc, or_eq_true → zbd, or_eq_false_iff → zbe
open Int renaming ofNat_lt → zia, ofNat_le → zib, not_lt → zic, not_le → zid
open Decidable renaming not_not → zda
set_option maxRecDepth 100000

def okIn (p v : Int) (cs : List (List Int)) (d : Int) (a : List (Int × Int)) : Bool := ((primeB p v && okCnf v cs) && degB d) && isT p (2 ^ v.toNat) a
def InP (p v : Int) (cs : List (List Int)) (d : Int) (a : List (Int × Int)) : Prop := Sp p (2 ^ v.toNat) (prodsP p v.toNat (gradN (2 ^ v.toNat)) cs d) (dnT (2 ^ v.toNat) a)
theorem l19Degree_ok (d : Int) : Ctr Tryz.prog 15 [.int .i64 d] false (.d (.bool (degB d))) [] := by
  have c1 := l1In_ok d 0 6
  unfold degB
  refine Ctr.of (n := 5) (rs := [.tmp 2]) Tryz.func15 rfl rfl Tryz.ntmps15 rfl rfl (by kernel_rfl) Tryz.checked.mixed ?_
  simp (disch := first | omega | decide +kernel) only [go_sem, zqa, zqb, zqc, zqd, zqe, ↓reduceIte, reduceCtorEq, zqf, zqg, zqh]
  (repeat' (first | ((first | (refine gsel_split (fun q' => ?_) (fun q' => ?_) <;> (have h' := q') <;> (try simp only [decide_eq_true_eq, decide_eq_false_iff_not, zba, zbb, bne_iff_ne, ne_eq, beq_iff_eq, bne_eq_false_iff_eq, beq_eq_false_iff_ne, zia, zib, zic, zid, zda, zbc, zbd, zbe, gt_iff_lt, ge_iff_le] at h') <;> try (exfalso; omega)) | (have q' := trivial; first | refine callX_new (c1) rfl (by decide) ?_ | refine callY_new (c1) rfl ?_ | refine hE _ _ ret_ne ?_ | refine hE _ _ exit_ne ?_)) <;> (try simp (disch := first | omega | decide +kernel) only [q', go_sem, zqa, zqb, zqc, zqd, zqe, ↓reduceIte, reduceCtorEq, zqf, zqg, zqh]) <;> clear q') | (refine hN _ ?_ ?_ Wk.kk) | (with_reducible refine And.intro ?_ ?_) | (with_reducible omega) | (exact ok_ints) | (exact cells_ints) | (exact no_mem) | (with_reducible exact plain_ints) | (refine le_maxLen ?_; omega) | (refine List.forall_mem_cons.2 ⟨?_, ?_⟩) | (simp only [go_sem, zqc, zqb, List.mem_cons, List.not_mem_nil, forall_eq]; done)))
  all_goals (first | omega)
theorem bool_comm2 {a b : Bool} : (a && b) = (b && a) := by cases a <;> cases b <;> rfl
end Abs.Y

namespace Abs.Y
open Go Go.Proofs Abs
open Nat renaming reduceEqDiff → zqa, reduceLT → zqb, reduceAdd → zqc, reduceMul → zqd, reduceSub → zqe, reduceLeDiff → zqf, reduceSubDiff → zqg, reduceBEq → zqh
open Bool renaming not_eq_true' → zba, not_eq_false' → zbb, and_eq_true → zbc, or_eq_true → zbd, or_eq_false_iff → zbe
open Int renaming ofNat_lt → zia, ofNat_le → zib, not_lt → zic, not_le → zid
open Decidable renaming not_not → zda
set_option maxRecDepth 100000

def modB (cs : List (List Int)) (x : Nat) : Bool := cs.all fun c => c.any (litT x)
def satI (u : Nat) (cs : List (List Int)) : Int := idxR (modB cs) (2 ^ u)
section
variable {p : Int} {u : Nat} (hp : 1 < p ∧ p ≤ 5) (hu : u ≤ 6)
include hp hu
theorem l19Unit_ok : Ctr Tryz.prog 21 [.int .i64 u] false (.sl 0) [(0, .arr 3 1 ((monoD u 0).map (.int .i64)))] := by
  have h2 := pow_le6 hu
  have h0 := Nat.two_pow_pos u
  have e : IntKind.wrap .i64 (1 * 2 ^ min u 64) = ((2 ^ u : Nat) : Int) := shl_one (by omega)
  have er : List.replicate (2 ^ u) (D.int .i64 0) = (List.replicate (2 ^ u) (0 : Int)).map (D.int .i64) := by simp
  unfold monoD
  generalize 2 ^ u = n at *
  have he0 : el (List.map (D.int .i64) (List.replicate n 0)) 0 = .int .i64 0 := by rw [el_ints (by simp; omega), getD_rep]
  have hset : (List.map (D.int .i64) (List.replicate n 0)).set 0 (D.int .i64 1) = ((List.replicate n (0 : Int)).set 0 1).map (D.int .i64) := by rw [List.map_set]
  refine Ctr.of (n := 10) (rs := [.tmp 2]) Tryz.func21 rfl rfl Tryz.ntmps21 rfl rfl (by kernel_rfl) Tryz.checked.mixed ?_
  simp (disch := first | omega | decide +kernel) only [e, er, he0, hset, go_sem, zqa, zqb, zqc, zqd, zqe, ↓reduceIte, reduceCtorEq, zqf, zqg, zqh]
  (repeat' (first | ((first | (refine gsel_split (fun q' => ?_) (fun q' => ?_) <;> (have h' := q') <;> (try simp only [decide_eq_true_eq, decide_eq_false_iff_not, zba, zbb, bne_iff_ne, ne_eq, beq_iff_eq, bne_eq_false_iff_eq, beq_eq_false_iff_ne, zia, zib, zic, zid, zda, zbc, zbd, zbe, gt_iff_lt, ge_iff_le] at h') <;> try (exfalso; omega)) | (have q' := trivial; first | refine hE _ _ ret_ne ?_ | refine hE _ _ exit_ne ?_)) <;> (try simp (disch := first | omega | decide +kernel) only [q', e, er, he0, hset, go_sem, zqa, zqb, zqc, zqd, zqe, ↓reduceIte, reduceCtorEq, zqf, zqg, zqh]) <;> clear q') | (refine hN _ ?_ ?_ Wk.kk) | (with_reducible refine And.intro ?_ ?_) | (with_reducible omega) | (exact ok_ints) | (exact cells_ints) | (exact no_mem) | (with_reducible exact plain_ints) | (refine le_maxLen ?_; omega) | (refine List.forall_mem_cons.2 ⟨?_, ?_⟩) | (simp only [go_sem, zqc, zqb, List.mem_cons, List.not_mem_nil, forall_eq]; done)))
  all_goals (first | omega | exact ret_sl 6 rfl rfl plain_ints)
end
end Abs.Y

namespace Abs.Y
open Go Go.Proofs Abs
open Nat renaming reduceEqDiff → zqa, reduceLT → zqb, reduceAdd → zqc, reduceMul → zqd, reduceSub → zqe, reduceLeDiff → zqf, reduceSubDiff → zqg, reduceBEq → zqh
open Bool renaming not_eq_true' → zba, not_eq_false' → zbb, and_eq_true → zbc, or_eq_true → zbd, or_eq_false_iff → zbe
open Int renaming ofNat_lt → zia, ofNat_le → zib, not_lt → zic, not_le → zid
open Decidable renaming not_not → zda
set_option maxRecDepth 100000

theorem Ech.other {p : Int} {n : Nat} {R : List (List Int)} (h : Ech p n ldG R) {r s : List Int} (hr : r ∈ R) (hs : s ∈ R) (hne : ldG r ≠ ldG s) : r.getD (ldG s) 0 = 0 := by
  have key : ∀ S : List (List Int), (S.Pairwise fun r s => s.getD (ldG r) 0 = 0 ∧ r.getD (ldG s) 0 = 0) → r ∈ S → s ∈ S → r.getD (ldG s) 0 = 0 := by
    intro S
    induction S with
    | nil => intro _ h; cases h
    | cons x S ih =>
      intro hp h1 h2
      rw [List.pairwise_cons] at hp
      rcases List.mem_cons.1 h1 with e1 | h3
      · rcases List.mem_cons.1 h2 with e2 | h4
        · exact absurd (by rw [e1, e2]) hne
        · rw [e1]; exact (hp.1 s h4).2
      · rcases List.mem_cons.1 h2 with e2 | h4
        · rw [e2]; exact (hp.1 r h3).1
        · exact ih hp.2 h3 h4
  exact key R h.pw hr hs
theorem ech_row {p : Int} {n : Nat} {R R' : List (List Int)} (hp : 1 < p) (hn : n ≤ 64) (h : Ech p n ldG R) (h' : Ech p n ldG R') (e : SpEq p n R R') {r r' : List Int} (hr : r ∈ R) (hr' : r' ∈ R') (hl : ldG r = ldG r') : r = r' := by
  have hv := h.vec r hr
  have hv' := h'.vec r' hr'
  have s1 : Sp p n R r := Sp.self (by omega) h.vec hr
  have s2 : Sp p n R r' := (e r').2 (Sp.self (by omega) h'.vec hr')
  have s3 : Sp p n R (addD p (p - 1) r r') := s1.plus (by omega) h.vec _ s2
  have hg : ∀ i, (addD p (p - 1) r r').getD i 0 = (r.getD i 0 + (p - 1) * r'.getD i 0) % p := fun i => addD_get (by rw [hv.1, hv'.1]) i
  by_cases hz : ldI (addD p (p - 1) r r') < 0
  · rw [ldI_neg] at hz
    refine vec_ext (p := p) hv.1 hv'.1 fun i => ?_
    have h1 := hz i
    rw [hg] at h1
    have h2 := hv.2 i
    have h3 := hv'.2 i
    generalize r.getD i 0 = a at *
    generalize r'.getD i 0 = b at *
    rw [emod_eq_of (y := a - b) b (by grind)] at h1
    have h4 := Int.emod_add_mul_ediv (a - b) p
    rw [h1] at h4
    have h5 : (a - b) / p = 0 := by
      rcases Int.lt_trichotomy ((a - b) / p) 0 with h6 | h6 | h6
      · have := Int.mul_le_mul_of_nonneg_left (show (a - b) / p ≤ -1 by omega) (show 0 ≤ p by omega); omega
      · exact h6
      · have := Int.mul_le_mul_of_nonneg_left (show 1 ≤ (a - b) / p by omega) (show 0 ≤ p by omega); omega
    rw [h5] at h4; omega
  · exfalso
    obtain ⟨s, hs, hsl⟩ := sp_ld hp hn h s3 hz
    obtain ⟨_, _, hv3, _⟩ := (ldI_or (addD p (p - 1) r r')).resolve_left fun h => hz (by rw [h.1]; decide)
    obtain ⟨s', hs', hsl'⟩ := sp_ld hp hn h' ((e _).1 (Sp.self (by omega) h.vec hs)) (h.nz hs)
    apply hv3
    rw [← hsl, hg]
    by_cases hc : ldG r = ldG s
    · rw [← hc, h.one r hr, hl, h'.one r' hr', show 1 + (p - 1) * 1 = p by omega, Int.emod_self]
    · rw [h.other hr hs hc]
      have : r'.getD (ldG s) 0 = 0 := by rw [← hsl']; exact h'.other hr' hs' fun e' => hc (by rw [hl, e', hsl'])
      rw [this]; simp
def dualV (p : Int) (u : Nat) (R : List (List Int)) : List Int := R.foldl (fun v r => v.set (ldG r) ((p - r.getD 0 0) % p)) (monoD u 0)
theorem dual_fold (p : Int) : ∀ (R : List (List Int)) (v : List Int), (R.foldl (fun v r => v.set (ldG r) ((p - r.getD 0 0) % p)) v).length = v.length ∧
    ((R.map ldG).Nodup → ∀ i, i < v.length → (∀ r ∈ R, ldG r = i → (R.foldl (fun v r => v.set (ldG r) ((p - r.getD 0 0) % p)) v).getD i 0 = (p - r.getD 0 0) % p) ∧
      ((∀ r ∈ R, ldG r ≠ i) → (R.foldl (fun v r => v.set (ldG r) ((p - r.getD 0 0) % p)) v).getD i 0 = v.getD i 0))
  | [], v => ⟨rfl, fun _ i _ => ⟨fun _ h => (by cases h), fun _ => rfl⟩⟩
  | r :: R, v => by
    obtain ⟨h1, h2⟩ := dual_fold p R (v.set (ldG r) ((p - r.getD 0 0) % p))
    rw [List.length_set] at h1 h2
    refine ⟨h1, fun hnd i hi => ?_⟩
    rw [List.map_cons, List.nodup_cons] at hnd
    obtain ⟨h3, h4⟩ := h2 hnd.2 i hi
    rw [List.foldl_cons]
    constructor
    · intro s hs hl
      rcases List.mem_cons.1 hs with rfl | hs
      · rw [h4 fun s hs e => hnd.1 (by rw [hl, ← e]; exact List.mem_map.2 ⟨s, hs, rfl⟩), getD_set, if_pos ⟨hl, hi⟩]
      · exact h3 s hs hl
    · intro hne
      rw [h4 fun s hs => hne s (by simp [hs]), getD_set, if_neg fun h => hne r (by simp) h.1]
theorem dual_eq {p : Int} {u : Nat} {R R' : List (List Int)} (hp : 1 < p) (hu : u ≤ 6) (h : Ech p (2 ^ u) ldG R) (h' : Ech p (2 ^ u) ldG R') (e : SpEq p (2 ^ u) R R') : dualV p u R = dualV p u R' := by
  have h64 := pow_le6 hu
  obtain ⟨a1, a2⟩ := dual_fold p R (monoD u 0)
  obtain ⟨b1, b2⟩ := dual_fold p R' (monoD u 0)
  have hl1 : (dualV p u R).length = 2 ^ u := a1.trans (mono_len u 0)
  have hl2 : (dualV p u R').length = 2 ^ u := b1.trans (mono_len u 0)
  refine ext_getDz 0 (by rw [hl1, hl2]) fun i hi => ?_
  rw [hl1, ← mono_len u 0] at hi
  obtain ⟨a3, a4⟩ := a2 h.nodup i hi
  obtain ⟨b3, b4⟩ := b2 h'.nodup i hi
  by_cases hh : ∃ r ∈ R, ldG r = i
  · obtain ⟨r, hr, rfl⟩ := hh
    obtain ⟨s, hs, hsl⟩ := sp_ld hp h64 h' ((e _).1 (Sp.self (by omega) h.vec hr)) (h.nz hr)
    have := ech_row hp h64 h h' e hr hs hsl.symm
    exact (a3 r hr rfl).trans ((b3 s hs hsl).trans (by rw [this])).symm
  · have h5 : ∀ s ∈ R', ldG s ≠ i := fun s hs e' => by
      obtain ⟨r, hr, hrl⟩ := sp_ld hp h64 h ((e _).2 (Sp.self (by omega) h'.vec hs)) (h'.nz hs)
      exact hh ⟨r, hr, hrl.trans e'⟩
    exact (a4 fun r hr e' => hh ⟨r, hr, e'⟩).trans (b4 h5).symm
theorem lead_zero {p : Int} {u : Nat} {R : List (List Int)} (hp : 1 < p) (hu : u ≤ 6) (h : Ech p (2 ^ u) ldG R) : (∃ r ∈ R, ldG r = 0) ↔ Sp p (2 ^ u) R (monoD u 0) := by
  have h64 := pow_le6 hu
  rw [sp_one_iff hp hu h]
  have hg := mono_get (p := p) hp (u := u) (m := 0) (Nat.two_pow_pos u)
  have hz : ¬ ldI (monoD u 0) < 0 := fun hn => by
    have := ldI_neg.1 hn 0
    rw [hg] at this; simp at this
  have hl0 : ldG (monoD u 0) = 0 := by
    obtain ⟨_, _, h3, _⟩ := (ldI_or (monoD u 0)).resolve_left fun h => hz (by rw [h.1]; decide)
    rw [hg] at h3
    by_cases e : 0 = ldG (monoD u 0)
    · exact e.symm
    · rw [if_neg e] at h3; exact absurd rfl h3
  constructor
  · rintro ⟨r, hr, hl⟩
    have hv := h.vec r hr
    obtain ⟨_, _, _, h4⟩ := (ldI_or r).resolve_left fun e => h.nz hr (by rw [e.1]; decide)
    have : r = monoD u 0 := by
      refine vec_ext (p := p) hv.1 (mono_len u 0) fun i => ?_
      rw [hg]
      by_cases e : 0 = i
      · rw [if_pos e, ← e, ← hl]; exact h.one r hr
      · rw [if_neg e]
        by_cases hi : r.getD i 0 = 0
        · exact hi
        · have := h4 i hi
          rw [hl] at this
          have hlt := lt_of_get hi
          have h0 : kG 0 = 0 := by decide
          rw [h0] at this
          exact absurd (kG_inj (i := i) (j := 0) (by have := hv.1; omega) (by decide) (by omega)) fun e' => e e'.symm
    rw [← this]; exact hr
  · intro hm
    exact ⟨_, hm, hl0⟩
def timesV (p : Int) (row : List Int) (k : Int) : List Int := row.map fun x => x * k % p
theorem timesV_eq {p k : Int} {n : Nat} {row : List Int} (h : row.length = n) : timesV p row k = addD p k (List.replicate n 0) row := by
  refine ext_getDz 0 (by rw [addD_len (by simp; omega)]; simp [timesV, h]) fun i hi => ?_
  rw [addD_get (by simp; omega), getD_rep, Int.zero_add, Int.mul_comm]
  unfold timesV at hi ⊢
  rw [List.length_map] at hi
  simp [List.getD_eq_getElem?_getD, hi]
structure Elim (p : Int) (u : Nat) (S0 : List (List Int)) (done : Nat → Prop) (S T : List (List Int)) : Prop where
  vs : AllV p (2 ^ u) S
  sp : SpEq p (2 ^ u) (T ++ S) S0
  zero : ∀ s ∈ S, ∀ m, done m → s.getD m 0 = 0
  ech : Ech p (2 ^ u) ldG T
  ld : ∀ t ∈ T, done (ldG t)
theorem Elim.start {p : Int} {u : Nat} {S0 : List (List Int)} (h : AllV p (2 ^ u) S0) : Elim p u S0 (fun _ => False) S0 [] :=
  ⟨h, fun _ => Iff.rfl, fun _ _ _ h => h.elim, .nil, fun _ h => (by cases h)⟩
section
variable {p : Int} {u : Nat} (hp : p = 2 ∨ p = 3 ∨ p = 5) (hu : u ≤ 6)
include hp hu
theorem Elim.skip {S0 S T : List (List Int)} {done done' : Nat → Prop} {m : Nat} (h : Elim p u S0 done S T) (hm : ∀ s ∈ S, s.getD m 0 = 0) (hd : ∀ i, done' i ↔ done i ∨ i = m) : Elim p u S0 done' S T :=
  ⟨h.vs, h.sp, fun s hs i hi => by
    rcases (hd i).1 hi with h1 | rfl
    · exact h.zero s hs i h1
    · exact hm s hs, h.ech, fun t ht => (hd _).2 (.inl (h.ld t ht))⟩
theorem Elim.step {S0 S1 S2 T : List (List Int)} {done done' : Nat → Prop} {m : Nat} {s : List Int} (h : Elim p u S0 done (S1 ++ s :: S2) T) (hs : s.getD m 0 ≠ 0) (hd : ∀ i, done' i ↔ done i ∨ i = m) (hbig : ∀ i, i < 2 ^ u → kG m < kG i → done i) (hnd : ¬ done m) :
    ldG (timesV p s (invN p (s.getD m 0))) = m ∧ Elim p u S0 done' ((S1 ++ S2).map (clr p m (timesV p s (invN p (s.getD m 0))))) (T.map (clr p m (timesV p s (invN p (s.getD m 0)))) ++ [timesV p s (invN p (s.getD m 0))]) := by
  have h64 := pow_le6 hu
  have hp1 : 1 < p := by omega
  have hsv := h.vs s (by simp)
  have hsl := hsv.1
  have hlt := lt_of_get hs
  rw [hsv.1] at hlt
  have hsm := hsv.2 m
  obtain ⟨i1, i2, i3, _⟩ := invN_ok hp (c := s.getD m 0) ⟨by omega, hsm.2⟩
  have htop : ∀ i, s.getD i 0 ≠ 0 → kG i ≤ kG m := fun i hi => by
    by_cases hk : kG m < kG i
    · exact absurd (h.zero s (by simp) i (hbig i (by have := lt_of_get hi; rw [hsv.1] at this; exact this) hk)) hi
    · omega
  have hld : ldG s = m := (lds_G h64).eq hsv.1 hs htop
  rw [timesV_eq hsv.1]
  have hT0 : ∀ r ∈ T, s.getD (ldG r) 0 = 0 := fun r hr => h.zero s (by simp) _ (h.ld r hr)
  have hadd := h.ech.add (n := 2 ^ u) hp1 (lds_G h64) hsv hT0 (k := invN p (s.getD m 0)) (by rw [hld]; exact hs) (by rw [hld, Int.mul_comm]; exact i3)
  simp only [hld] at hadd
  obtain ⟨a1, a2, a3, a4⟩ := hadd
  have hg : ∀ i, (addD p (invN p (s.getD m 0)) (List.replicate (2 ^ u) 0) s).getD i 0 = (invN p (s.getD m 0) : Int) * s.getD i 0 % p := fun i => by
    rw [addD_get (by simp; omega), getD_rep, Int.zero_add]
  have hone : (addD p (invN p (s.getD m 0)) (List.replicate (2 ^ u) 0) s).getD m 0 = 1 := by rw [hg, Int.mul_comm]; exact i3
  have hrow0 : ∀ i, done i → (addD p (invN p (s.getD m 0)) (List.replicate (2 ^ u) 0) s).getD i 0 = 0 := fun i hi => by rw [hg, h.zero s (by simp) i hi]; simp
  have hrs : Sp p (2 ^ u) [s] (addD p (invN p (s.getD m 0)) (List.replicate (2 ^ u) 0) s) := .add _ .zero (by simp)
  have hsr : Sp p (2 ^ u) [addD p (invN p (s.getD m 0)) (List.replicate (2 ^ u) 0) s] s := by
    have h1 : addD p (s.getD m 0) (List.replicate (2 ^ u) 0) (addD p (invN p (s.getD m 0)) (List.replicate (2 ^ u) 0) s) = s := by
      refine vec_ext (p := p) (n := 2 ^ u) (by rw [addD_len (by rw [a1.1]; simp)]; simp) hsv.1 fun i => ?_
      rw [addD_get (by rw [a1.1]; simp), getD_rep, Int.zero_add, hg]
      obtain ⟨t1, e1⟩ := emod_wit p ((invN p (s.getD m 0) : Int) * s.getD i 0)
      obtain ⟨t2, e2⟩ := emod_wit p (s.getD m 0 * (invN p (s.getD m 0) : Int))
      rw [i3] at e2
      rw [e1]
      have h5 := hsv.2 i
      have e3 : s.getD m 0 * ((invN p (s.getD m 0) : Int) * s.getD i 0 + p * t1) = s.getD i 0 + p * (s.getD m 0 * t1 - t2 * s.getD i 0) := by
        have e4 : s.getD m 0 * (invN p (s.getD m 0) : Int) = 1 - p * t2 := by omega
        rw [Int.mul_add, ← Int.mul_assoc, e4]; grind
      rw [emod_eq_of _ e3, Int.emod_eq_of_lt h5.1 h5.2]
    have := Sp.add (p := p) (n := 2 ^ u) (R := [addD p (invN p (s.getD m 0)) (List.replicate (2 ^ u) 0) s]) (s.getD m 0) .zero (List.mem_singleton.2 rfl)
    rwa [h1] at this
  generalize addD p (invN p (s.getD m 0)) (List.replicate (2 ^ u) 0) s = row at *
  have hV1 : AllV p (2 ^ u) (S1 ++ S2) := fun x hx => h.vs x (by
    rcases List.mem_append.1 hx with h1 | h1
    · exact List.mem_append.2 (.inl h1)
    · exact List.mem_append.2 (.inr (List.mem_cons_of_mem _ h1)))
  refine ⟨a2, ⟨fun x hx => ?_, ?_, fun x hx i hi => ?_, a4, fun t ht => ?_⟩⟩
  · obtain ⟨y, hy, rfl⟩ := List.mem_map.1 hx
    exact Vec.addD (by omega) (hV1 y hy).1 a1.1
  · have hAo : AllV p (2 ^ u) (T ++ (S1 ++ s :: S2)) := h.ech.vec.app h.vs
    have hAn : AllV p (2 ^ u) (T.map (clr p m row) ++ [row] ++ (S1 ++ S2).map (clr p m row)) := a4.vec.app fun x hx => by
      obtain ⟨y, hy, rfl⟩ := List.mem_map.1 hx
      exact Vec.addD (by omega) (hV1 y hy).1 a1.1
    have hro : Sp p (2 ^ u) (T ++ (S1 ++ s :: S2)) row := Sp.mono (fun x hx => by rw [List.mem_singleton.1 hx]; simp) hrs
    have hrn : Sp p (2 ^ u) (T.map (clr p m row) ++ [row] ++ (S1 ++ S2).map (clr p m row)) row := Sp.self (by omega) hAn (by simp)
    have hback : ∀ y, Vec p (2 ^ u) y → addD p (y.getD m 0) (clr p m row y) row = y := fun y hy => by
      unfold clr
      rw [addD_same (n := 2 ^ u) hy.1 a1.1, show p - y.getD m 0 + y.getD m 0 = p by omega]
      exact addD_mul 1 (by omega) hy a1.1
    have hin : ∀ y, Vec p (2 ^ u) y → y ∈ T ++ (S1 ++ s :: S2) → Sp p (2 ^ u) (T ++ (S1 ++ s :: S2)) (clr p m row y) := fun y hy hm =>
      (Sp.self (by omega) hAo hm).plus (by omega) hAo _ hro
    have hout : ∀ y, Vec p (2 ^ u) y → clr p m row y ∈ T.map (clr p m row) ++ [row] ++ (S1 ++ S2).map (clr p m row) → Sp p (2 ^ u) (T.map (clr p m row) ++ [row] ++ (S1 ++ S2).map (clr p m row)) y := fun y hy hm => by
      have := (Sp.self (by omega) hAn hm).plus (by omega) hAn (y.getD m 0) hrn
      rwa [hback y hy] at this
    refine SpEq.trans (R' := T ++ (S1 ++ s :: S2)) (fun v => ⟨Sp.trans (by omega) hAo fun x hx => ?_, Sp.trans (by omega) hAn fun x hx => ?_⟩) h.sp
    · rcases List.mem_append.1 hx with h1 | h1
      · rcases List.mem_append.1 h1 with h2 | h2
        · obtain ⟨y, hy, rfl⟩ := List.mem_map.1 h2
          exact hin y (h.ech.vec y hy) (List.mem_append.2 (.inl hy))
        · rw [List.mem_singleton.1 h2]; exact hro
      · obtain ⟨y, hy, rfl⟩ := List.mem_map.1 h1
        refine hin y (hV1 y hy) (List.mem_append.2 (.inr ?_))
        rcases List.mem_append.1 hy with h2 | h2
        · exact List.mem_append.2 (.inl h2)
        · exact List.mem_append.2 (.inr (List.mem_cons_of_mem _ h2))
    · rcases List.mem_append.1 hx with h1 | h1
      · exact hout x (h.ech.vec x h1) (List.mem_append.2 (.inl (List.mem_append.2 (.inl (List.mem_map.2 ⟨x, h1, rfl⟩)))))
      · rcases List.mem_append.1 h1 with h2 | h2
        · exact hout x (h.vs x (List.mem_append.2 (.inl h2))) (List.mem_append.2 (.inr (List.mem_map.2 ⟨x, List.mem_append.2 (.inl h2), rfl⟩)))
        · rcases List.mem_cons.1 h2 with h3 | h3
          · rw [h3]; exact Sp.mono (fun y hy => by rw [List.mem_singleton.1 hy]; simp) hsr
          · exact hout x (h.vs x (List.mem_append.2 (.inr (List.mem_cons_of_mem _ h3)))) (List.mem_append.2 (.inr (List.mem_map.2 ⟨x, List.mem_append.2 (.inr h3), rfl⟩)))
  · obtain ⟨y, hy, rfl⟩ := List.mem_map.1 hx
    have hyv := hV1 y hy
    have hym := hyv.2 m
    unfold clr
    rw [addD_get (by rw [hyv.1, a1.1])]
    rcases (hd i).1 hi with h1 | rfl
    · have hy0 : y.getD i 0 = 0 := h.zero y (by
        rcases List.mem_append.1 hy with h2 | h2
        · exact List.mem_append.2 (.inl h2)
        · exact List.mem_append.2 (.inr (List.mem_cons_of_mem _ h2))) i h1
      rw [hy0, hrow0 i h1]; simp
    · rw [hone, Int.mul_one, show y.getD i 0 + (p - y.getD i 0) = p by omega, Int.emod_self]
  · rcases List.mem_append.1 ht with h1 | h1
    · obtain ⟨y, hy, rfl⟩ := List.mem_map.1 h1
      rw [a3 y hy]
      exact (hd _).2 (.inl (h.ld y hy))
    · rw [List.mem_singleton.1 h1, a2]
      exact (hd _).2 (.inr rfl)
end
end Abs.Y
