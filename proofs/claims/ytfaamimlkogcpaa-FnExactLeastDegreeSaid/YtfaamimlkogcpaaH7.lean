/- What functions of this program compute, as contracts over plain data, with what the proofs need of them. No condition. -/
import Derived.Test.YtfaamimlkogcpaaD10
import Derived.Test.YtfaamimlkogcpaaD5
import Derived.Test.YtfaamimlkogcpaaC4
import Derived.Test.YtfaamimlkogcpaaAbsShelf
import Derived.Test.YtfaamimlkogcpaaV15
set_option linter.all false
namespace Abs.Y
open Go Go.Proofs Abs
open Nat renaming reduceEqDiff → zqa, reduceLT → zqb, reduceAdd → zqc, reduceMul → zqd, reduceSub → zqe, reduceLeDiff → zqf, reduceSubDiff → zqg, reduceBEq → zqh
open Bool renaming not_eq_true' → zba, not_eq_false' → zbb, and_eq_true → zbc, or_eq_true → zbd, or_eq_false_iff → zbe
open Int renaming ofNat_lt → zia, ofNat_le → zib, not_lt → zic, not_le → zid
open Decidable renaming not_not → zda
set_option maxRecDepth 100000

theorem degreeOk_ok (d : Int) : Ctr Try.prog 71 [.int .i64 d] false (.d (.bool (degB d))) [] := by
  have c1 := within_ok d 0 6
  unfold degB
  refine Ctr.of (n := 5) (rs := [.tmp 2]) Try.func71 rfl rfl Try.ntmps71 rfl rfl (by kernel_rfl) Try.checked.mixed ?_
  simp (disch := first | omega | decide +kernel) only [go_sem, zqa, zqb, zqc, zqd, zqe, ↓reduceIte, reduceCtorEq, zqf, zqg, zqh]
  (repeat' (first | ((first | (refine gsel_split (fun q' => ?_) (fun q' => ?_) <;> (have h' := q') <;> (try simp only [decide_eq_true_eq, decide_eq_false_iff_not, zba, zbb, bne_iff_ne, ne_eq, beq_iff_eq, bne_eq_false_iff_eq, beq_eq_false_iff_ne, zia, zib, zic, zid, zda, zbc, zbd, zbe, gt_iff_lt, ge_iff_le] at h') <;> try (exfalso; omega)) | (have q' := trivial; first | refine callX_new (c1) rfl (by decide) ?_ | refine callY_new (c1) rfl ?_ | refine hE _ _ ret_ne ?_ | refine hE _ _ exit_ne ?_)) <;> (try simp (disch := first | omega | decide +kernel) only [q', go_sem, zqa, zqb, zqc, zqd, zqe, ↓reduceIte, reduceCtorEq, zqf, zqg, zqh]) <;> clear q') | (refine hN _ ?_ ?_ Wk.kk) | (with_reducible refine And.intro ?_ ?_) | (with_reducible omega) | (exact ok_ints) | (exact cells_ints) | (exact no_mem) | (with_reducible exact plain_ints) | (refine le_maxLen ?_; omega) | (refine List.forall_mem_cons.2 ⟨?_, ?_⟩) | (simp only [go_sem, zqc, zqb, List.mem_cons, List.not_mem_nil, forall_eq]; done)))
  all_goals (first | omega)
theorem redQ_zero {p : Int} {u : Nat} {R M : List (List Int)} {many : Nat} {a : List Int} (hp : 0 < p) (h : Ech p (2 ^ u) ldG R) (ha : Vec p (2 ^ u) a) {t : Bool} (ht : t = true ↔ Sp p (2 ^ u) R a) : decide (degD (redQ p R M a many R.length).1 < 0) = t := by
  have h1 := (redQ_vec hp (M := M) (many := many) h.vec ha R.length (Nat.le_refl _)).1
  have h2 := redQ_red hp (M := M) (many := many) h.vec ha R.length (Nat.le_refl _)
  rw [List.take_length] at h2
  have key : degD (redQ p R M a many R.length).1 < 0 ↔ t = true := by
    rw [← deg_eq, degT_neg, spT_nil, ldI_neg, ← vec_zero_iff (p := p) h1.1, h2, red_iff hp ldG h.vec h.tri ha, ht]
  cases t with
  | true => exact decide_eq_true (key.2 rfl)
  | false => exact decide_eq_false fun e => by cases key.1 e
section
variable {p : Int} {u : Nat} (hp : 1 < p ∧ p ≤ 5) (hu : u ≤ 6)
include hp hu
end
end Abs.Y

namespace Abs.Y
open Go Go.Proofs Abs
open Nat renaming reduceEqDiff → zqa, reduceLT → zqb, reduceAdd → zqc, reduceMul → zqd, reduceSub → zqe, reduceLeDiff → zqf, reduceSubDiff → zqg, reduceBEq → zqh
open Bool renaming not_eq_true' → zba, not_eq_false' → zbb, and_eq_true → zbc, or_eq_true → zbd, or_eq_false_iff → zbe
open Int renaming ofNat_lt → zia, ofNat_le → zib, not_lt → zic, not_le → zid
open Decidable renaming not_not → zda
set_option maxRecDepth 100000

def degC (cs : List (List Int)) (list : List (List (Int × Int))) (k : Nat) : Int :=
  (List.range k).foldl (fun d i => if list.getD i [] = [] then d else max d (degT (list.getD i []) + ((cs.getD i []).length : Int))) 0
def certB (p v : Int) (cs : List (List Int)) (list : List (List (Int × Int))) : Bool := goodL p v cs list && decide (sumC p v.toNat cs list list.length = monoD v.toNat 0)
def certV (p v : Int) (cs : List (List Int)) (list : List (List (Int × Int))) : Int := if certB p v cs list then degC cs list list.length else 0
end Abs.Y

namespace Abs.Y
open Go Go.Proofs Abs
open Nat renaming reduceEqDiff → zqa, reduceLT → zqb, reduceAdd → zqc, reduceMul → zqd, reduceSub → zqe, reduceLeDiff → zqf, reduceSubDiff → zqg, reduceBEq → zqh
open Bool renaming not_eq_true' → zba, not_eq_false' → zbb, and_eq_true → zbc, or_eq_true → zbd, or_eq_false_iff → zbe
open Int renaming ofNat_lt → zia, ofNat_le → zib, not_lt → zic, not_le → zid
open Decidable renaming not_not → zda
set_option maxRecDepth 100000

end Abs.Y

namespace Abs.Y
open Go Go.Proofs Abs
open Nat renaming reduceEqDiff → zqa, reduceLT → zqb, reduceAdd → zqc, reduceMul → zqd, reduceSub → zqe, reduceLeDiff → zqf, reduceSubDiff → zqg, reduceBEq → zqh
open Bool renaming not_eq_true' → zba, not_eq_false' → zbb, and_eq_true → zbc, or_eq_true → zbd, or_eq_false_iff → zbe
open Int renaming ofNat_lt → zia, ofNat_le → zib, not_lt → zic, not_le → zid
open Decidable renaming not_not → zda
set_option maxRecDepth 100000

theorem bool_ex (P : Prop) : ∃ b : Bool, b = true ↔ P := by
  by_cases h : P
  · exact ⟨true, by simp [h]⟩
  · exact ⟨false, by simp [h]⟩
@[reducible] def echN (k0 k1 k2 : Nat) (p : Int) (u : Nat) (e : EchS) : List (Nat × AO) :=
  [(k2, .dp (some (78, 1)) (e.M.map D.ints) none), (k1, .arr 78 1 (e.R.map D.ints)), (k0, .box 142 [.d (.int .i64 p), .d (.int .i64 u), .sl k1, .sl k2, .d (.int .i64 (e.many : Nat))])]
section
variable {p : Int} {u : Nat} (hp : p = 2 ∨ p = 3 ∨ p = 5) (hu : u ≤ 6)
def echL (L : List (List Int)) : EchS := L.foldl (fun e a => addE p u e a) ⟨[], [], 0⟩
include hp hu
end
def okBar (p v : Int) (cs : List (List Int)) (d : Int) (list : List (List (Int × Int))) : Bool :=
  (((primeB p v && okCnf v cs) && degB d) && decide (list.length ≤ 64)) && list.all (isT p (2 ^ v.toNat))
def BarP (p v : Int) (cs : List (List Int)) (d : Int) (list : List (List (Int × Int))) : Prop :=
  okBar p v cs d list = true ∧ ∃ R, Ech p (2 ^ v.toNat) ldG R ∧ SpEq p (2 ^ v.toNat) R (list.map (dnT (2 ^ v.toNat))) ∧ Barr p v.toNat d cs (list.map (dnT (2 ^ v.toNat))) R
end Abs.Y

namespace Abs
open Go Go.Proofs
theorem Ctr.boxR {P : Program} {f : FuncId} {xs : List D} {e : TypeId} {x y : D} {cells : List AV} (hc : cellsD cells x.cells) (h : Ctr P f xs true (.tup [.d y, .p 0 0]) [(0, .box e cells)]) : Ctr P f xs true (.tup [.d y, .d (.ptr x)]) [] := by
  refine ⟨h.1, fun S w vs hl hr => (h.2 S w vs hl hr).mono fun en w' ⟨v, he, hf, β, φ, hrel, hobj, hown, hdis⟩ => ⟨v, he, hf, β, φ, ?_, by simp [lk], by simp [lk], by simp [lk]⟩⟩
  obtain ⟨b, c, hb, hrd⟩ := rd_of_box (S' := free (fun g => w.heap.size ≤ g ∨ (true = true ∧ S g)) φ []) (hobj 0 (.box e cells) (by simp [lk])) hc (fun g hg _ => ⟨hg.1, by simp [lk]⟩) fun g hg => ⟨.inl (hown 0 (.box e cells) g (by simp [lk]) hg), by simp [lk]⟩
  cases hrel with
  | tup hl2 hrl =>
    refine .tup (by simpa using hl2) fun i hi => ?_
    match i, hi with
    | 0, _ =>
      have := hrl 0 (by simp)
      simp only [List.getD_cons_zero] at this ⊢
      generalize hq : List.getD _ 0 Go.undef = q at *
      cases this with
      | d h => exact .d (h.move fun g hg _ => ⟨⟨hg.1, by simp [lk]⟩, rfl⟩)
    | 1, _ =>
      have := hrl 1 (by simp)
      simp only [List.getD_cons_succ, List.getD_cons_zero] at this ⊢
      generalize hq : List.getD _ 1 Go.undef = q at *
      cases this with
      | p h => rw [hb] at h; cases h; exact .d (by simpa using hrd)
theorem ret_rp {P : Program} {t u j : Nat} {e : TypeId} {cells : List AV} {y : D} {st : St} (js : List Nat) (h : lk t (frzs js st).s = some (.d y)) (h' : lk u (frzs js st).s = some (.p j 0)) (hj : lk j (frzs js st).o = some (.box e cells)) (hc : AV.renL (fun _ => j) cells = cells) :
    retQ P [.tmp t, .tmp u] true (.tup [.d y, .p 0 0]) [(0, .box e cells)] .ret st := by
  refine .inr ⟨rfl, js, ?_⟩
  simp only [retO, resV, h, h']
  exact ⟨trivial, .one j rfl (by rw [hj, AO.ren, hc]), .inl trivial⟩
end Abs
namespace Abs.Y
open Go Go.Proofs Abs
open Nat renaming reduceEqDiff → zqa, reduceLT → zqb, reduceAdd → zqc, reduceMul → zqd, reduceSub → zqe, reduceLeDiff → zqf, reduceSubDiff → zqg, reduceBEq → zqh
open Bool renaming not_eq_true' → zba, not_eq_false' → zbb, and_eq_true → zbc, or_eq_true → zbd, or_eq_false_iff → zbe
open Int renaming ofNat_lt → zia, ofNat_le → zib, not_lt → zic, not_le → zid
open Decidable renaming not_not → zda
set_option maxRecDepth 100000

def keepI (p : Int) (u : Nat) (s : EchS × List Pr) (t : Pr) : EchS × List Pr := (addE p u s.1 t.2.2, if ldI (restE p s.1 t.2.2) < 0 then s.2 else s.2 ++ [t])
def indS (p : Int) (u : Nat) (ts : List Pr) : EchS × List Pr := ts.foldl (keepI p u) (⟨[], [], 0⟩, [])
theorem indS_succ (p : Int) (u : Nat) (ts : List Pr) {i : Nat} (h : i < ts.length) : indS p u (ts.take (i + 1)) = keepI p u (indS p u (ts.take i)) (ts.getD i (0, 0, [])) := by
  unfold indS
  rw [take_succ (0, 0, []) ts i h, List.foldl_append]; rfl
theorem indS_ok {p : Int} {u : Nat} (hp : p = 2 ∨ p = 3 ∨ p = 5) (hu : u ≤ 6) {ts : List Pr} (hts : ∀ t ∈ ts, Vec p (2 ^ u) t.2.2) : ∀ i, i ≤ ts.length → EchI p u (indS p u (ts.take i)).1 ∧ (indS p u (ts.take i)).2.length = (indS p u (ts.take i)).1.R.length ∧ SpEq p (2 ^ u) (indS p u (ts.take i)).1.R ((ts.take i).map fun t => t.2.2) ∧ ∀ t ∈ (indS p u (ts.take i)).2, t ∈ ts
  | 0, _ => ⟨EchI.nil, rfl, fun _ => Iff.rfl, fun _ h => (by cases h)⟩
  | i + 1, hi => by
    obtain ⟨h1, h2, h3, h9⟩ := indS_ok hp hu hts i (by omega)
    have hm := getD_mem (z := ((0, 0, []) : Pr)) (l := ts) (i := i) (by omega)
    have hv := hts _ hm
    obtain ⟨h4, h5, _⟩ := addE_ok hp hu h1 hv
    have hA : AllV p (2 ^ u) ((ts.take i).map fun t => t.2.2) := fun a ha => by
      obtain ⟨t, ht, rfl⟩ := List.mem_map.1 ha
      exact hts t (List.mem_of_mem_take ht)
    rw [indS_succ p u ts (by omega), take_succ (0, 0, []) ts i (by omega), List.map_append]
    refine ⟨h4, ?_, h5.trans (SpEq.app (by omega) _ h1.ech.vec hA (fun x hx => by
      simp only [List.map_cons, List.map_nil, List.mem_singleton] at hx; rw [hx]; exact hv) h3), fun t ht => ?_⟩
    · unfold keepI addE
      simp only
      split
      · exact h2
      · simp [h2]
    · unfold keepI at ht
      simp only at ht
      split at ht
      · exact h9 t ht
      · rcases List.mem_append.1 ht with h6 | h6
        · exact h9 t h6
        · rw [List.mem_singleton.1 h6]; exact hm
def indP (p : Int) (u : Nat) (cs : List (List Int)) (d : Int) : EchS × List Pr := indS p u (prK p u (gradI (2 ^ u)) cs d cs.length)
theorem indP_ok {p : Int} {u : Nat} (hp : p = 2 ∨ p = 3 ∨ p = 5) (hu : u ≤ 6) (cs : List (List Int)) (d : Int) : EchI p u (indP p u cs d).1 ∧ (indP p u cs d).2.length = (indP p u cs d).1.R.length ∧ SpEq p (2 ^ u) (indP p u cs d).1.R (prodsP p u (gradI (2 ^ u)) cs d) ∧ ∀ t ∈ (indP p u cs d).2, t ∈ prK p u (gradI (2 ^ u)) cs d cs.length := by
  have hpv : ∀ t ∈ prK p u (gradI (2 ^ u)) cs d cs.length, Vec p (2 ^ u) t.2.2 := fun t ht => by
    unfold prK at ht
    rw [List.mem_flatMap] at ht
    obtain ⟨i, _, h⟩ := ht
    unfold prI at h
    split at h
    · rw [List.mem_map] at h
      obtain ⟨m, _, rfl⟩ := h
      exact prodC_vec (by omega) u _ m
    · cases h
  have h := indS_ok hp hu hpv _ (Nat.le_refl _)
  rw [List.take_length, prK_polys p u _ cs d _ (Nat.le_refl _), List.take_length] at h
  exact h
section
variable {p : Int} {u : Nat} (hp : p = 2 ∨ p = 3 ∨ p = 5) (hu : u ≤ 6)
include hp hu
set_option maxHeartbeats 16000000 in
theorem independent_ok {cs : List (List Int)} (hcl : cs.length ≤ 60) {d : Int} (hd : d ≤ 6) :
    Ctr Try.prog 72 [.ptr (D.alg p u cs (cs.map (clauseD p u))), .int .i64 d] true
      (.tup [.d (.slice ((indP p u cs d).2.map D.pr)), .d (.ptr (D.ech p u (indP p u cs d).1.R (indP p u cs d).1.M (indP p u cs d).1.many))]) [] := by
  have h2 := pow_le6 hu
  have hp1 : 1 < p ∧ p ≤ 5 := by omega
  have c0 := products_ok hp1 hu hcl hd
  have hpv : ∀ t ∈ prK p u (gradI (2 ^ u)) cs d cs.length, Vec p (2 ^ u) t.2.2 := fun t ht => by
    unfold prK at ht
    rw [List.mem_flatMap] at ht
    obtain ⟨i, _, h⟩ := ht
    unfold prI at h
    split at h
    · rw [List.mem_map] at h
      obtain ⟨m, _, rfl⟩ := h
      exact prodC_vec hp1.1 u _ m
    · cases h
  have htl := prK_len p u (gradI (2 ^ u)) cs d (n := 64) (fun i => gradI_len h2 _) cs.length
  unfold indP
  generalize prK p u (gradI (2 ^ u)) cs d cs.length = ts at *
  have hsp := indS_ok hp hu hpv
  refine Ctr.boxR (e := 142) (cells := [.d (.int .i64 p), .d (.int .i64 u), .d (.slice ((indS p u ts).1.R.map D.ints)), .d (.slice ((indS p u ts).1.M.map D.ints)), .d (.int .i64 (indS p u ts).1.many)]) ⟨.inl rfl, .inl rfl, .inl rfl, .inl rfl, .inl rfl, trivial⟩ ?_
  refine Ctr.of (n := 35) (rs := [.tmp 4, .tmp 5]) Try.func72 rfl rfl Try.ntmps72 rfl rfl (by kernel_rfl) Try.checked.mixed ?_
  simp (disch := first | omega | decide +kernel) only [D.ints, D.alg, go_sem, zqa, zqb, zqc, zqd, zqe, ↓reduceIte, reduceCtorEq, zqf, zqg, zqh]
  (repeat' (first | ((first | (refine gsel_split (fun q' => ?_) (fun q' => ?_) <;> (have h' := q') <;> (try simp only [decide_eq_true_eq, decide_eq_false_iff_not, zba, zbb, bne_iff_ne, ne_eq, beq_iff_eq, bne_eq_false_iff_eq, beq_eq_false_iff_ne, zia, zib, zic, zid, zda, zbc, zbd, zbe, gt_iff_lt, ge_iff_le] at h') <;> try (exfalso; omega)) | (have q' := trivial; first | refine callX_shared (c0) rfl (by decide) ?_ | refine callY_shared (c0) rfl ?_ | refine hE _ _ ret_ne ?_ | refine hE _ _ exit_ne ?_)) <;> (try simp (disch := first | omega | decide +kernel) only [q', D.ints, D.alg, go_sem, zqa, zqb, zqc, zqd, zqe, ↓reduceIte, reduceCtorEq, zqf, zqg, zqh]) <;> clear q') | (refine hN _ ?_ ?_ Wk.kk) | (with_reducible refine And.intro ?_ ?_) | (with_reducible omega) | (exact ok_ints) | (exact cells_ints) | (exact no_mem) | (with_reducible exact plain_ints) | (refine le_maxLen ?_; omega) | (refine List.forall_mem_cons.2 ⟨?_, ?_⟩) | (simp only [go_sem, zqc, zqb, List.mem_cons, List.not_mem_nil, forall_eq]; done)))
  all_goals (first | omega | skip)
  refine Ok.loopN [34, 33, 32, 31, 30, 29, 28, 27, 26, 25, 24, 23, 22, 21, 20, 17, 16, 15, 14, 13, 12, 11, 10, 9, 8, 7, 5, 4, 3, 2] (fun i (_ : EchS × List Pr) => [(20, .d (.int .i64 (i : Nat))), (7, .sl 7)]) (fun _ (s : EchS × List Pr) => (7, .arr 125 3 (s.2.map D.pr)) :: echN 15 900000001 900000002 p u s.1) ts.length
    (fun i s => s = indS p u (ts.take i)) (⟨[], [], 0⟩, []) rfl
    ((Wk.nilObj 900000001 15 2 rfl rfl (by simp) (by decide) (e := 78) (k := 1) (by decide)).trans ((Wk.nilObj 900000002 15 3 (by simp (disch := first | omega | decide +kernel) only [setL, go_sem, zqa, zqb, zqc, zqd, zqe, ↓reduceIte, reduceCtorEq, zqf, zqg, zqh]; rfl) rfl (by simp [setL]) (by decide) (e := 78) (k := 1) (by decide)).trans
      ((Wk.deep 900000002 (by simp (disch := first | omega | decide +kernel) only [setL, go_sem, zqa, zqb, zqc, zqd, zqe, ↓reduceIte, reduceCtorEq, zqf, zqg, zqh]; rfl) (by simp [flat])).trans (by refine Wk.auto ?_ ?_ <;> simp [extraK, lk, killL, St.kill, wipeO, wipeS, AV.has, AV.hasL, AO.wipe, List.map_set, updSt, insL, dropS, ins, setL, D.ints])))) ?_
  rintro R0 i ⟨e, kp⟩ hN0 hE0 hi hs
  obtain ⟨he, hk, _⟩ := hsp i hi
  rw [← hs] at he hk
  simp only at he hk
  by_cases hlt : i < ts.length
  · have hsu := indS_succ p u ts hlt
    rw [← hs] at hsu
    have hei := el_pr hlt
    have hv := hpv _ (getD_mem (z := ((0, 0, []) : Pr)) hlt)
    have hbd := (he.toP hu).bd
    unfold keepI at hsu
    simp only at hsu
    clear hs hsp
    generalize ht : ts.getD i (0, 0, []) = t at *
    obtain ⟨ti, tm, V⟩ := t
    simp only at *
    have c2 := echAdd_ok hp hu he hv
    generalize addE p u e V = e2 at *
    by_cases hl : ldI (restE p e V) < 0
    · rw [if_pos hl] at hsu
      rw [decide_eq_true hl] at c2
      simp (disch := first | omega | decide +kernel) only [D.ints, hei, go_sem, zqa, zqb, zqc, zqd, zqe, ↓reduceIte, reduceCtorEq, zqf, zqg, zqh]
      (repeat' (first | ((first | (refine gsel_split (fun q' => ?_) (fun q' => ?_) <;> (have h' := q') <;> (try simp only [decide_eq_true_eq, decide_eq_false_iff_not, zba, zbb, bne_iff_ne, ne_eq, beq_iff_eq, bne_eq_false_iff_eq, beq_eq_false_iff_ne, zia, zib, zic, zid, zda, zbc, zbd, zbe, gt_iff_lt, ge_iff_le] at h') <;> try (exfalso; omega)) | (have q' := trivial; first | refine callX_mut [15, 900000001, 900000002] [15, 900000001, 900000002] [900000001, 900000002] (c2) ⟨.inl rfl, .inl rfl, trivial⟩ ⟨rfl, rfl, rfl, trivial⟩ rfl (by simp [dstB]) ?_ | refine hE _ _ ret_ne ?_ | refine hE _ _ exit_ne ?_)) <;> (try simp (disch := first | omega | decide +kernel) only [q', D.ints, hei, go_sem, zqa, zqb, zqc, zqd, zqe, ↓reduceIte, reduceCtorEq, zqf, zqg, zqh]) <;> clear q') | (refine hN _ ?_ ?_ Wk.kk) | (with_reducible refine And.intro ?_ ?_) | (with_reducible omega) | (exact ok_ints) | (exact cells_ints) | (exact no_mem) | (with_reducible exact plain_ints) | (refine le_maxLen ?_; omega) | (refine List.forall_mem_cons.2 ⟨?_, ?_⟩) | (simp only [go_sem, zqc, zqb, List.mem_cons, List.not_mem_nil, forall_eq]; done)))
      all_goals (first | omega | (refine hN0 (e2, kp) _ hlt hsu.symm (by refine Wk.auto ?_ ?_ <;> simp [extraK, lk, killL, St.kill, wipeO, wipeS, AV.has, AV.hasL, AO.wipe, List.map_set, updSt, insL, dropS, ins, D.ints]); done))
    · rw [if_neg hl] at hsu
      rw [decide_eq_false hl] at c2
      simp (disch := first | omega | decide +kernel) only [D.ints, hei, go_sem, zqa, zqb, zqc, zqd, zqe, ↓reduceIte, reduceCtorEq, zqf, zqg, zqh]
      (repeat' (first | ((first | (refine gsel_split (fun q' => ?_) (fun q' => ?_) <;> (have h' := q') <;> (try simp only [decide_eq_true_eq, decide_eq_false_iff_not, zba, zbb, bne_iff_ne, ne_eq, beq_iff_eq, bne_eq_false_iff_eq, beq_eq_false_iff_ne, zia, zib, zic, zid, zda, zbc, zbd, zbe, gt_iff_lt, ge_iff_le] at h') <;> try (exfalso; omega)) | (have q' := trivial; first | refine callX_mut [15, 900000001, 900000002] [15, 900000001, 900000002] [900000001, 900000002] (c2) ⟨.inl rfl, .inl rfl, trivial⟩ ⟨rfl, rfl, rfl, trivial⟩ rfl (by simp [dstB]) ?_ | refine hE _ _ ret_ne ?_ | refine hE _ _ exit_ne ?_)) <;> (try simp (disch := first | omega | decide +kernel) only [q', D.ints, hei, go_sem, zqa, zqb, zqc, zqd, zqe, ↓reduceIte, reduceCtorEq, zqf, zqg, zqh]) <;> clear q') | (refine hN _ ?_ ?_ Wk.kk) | (with_reducible refine And.intro ?_ ?_) | (with_reducible omega) | (exact ok_ints) | (exact cells_ints) | (exact no_mem) | (with_reducible exact plain_ints) | (refine le_maxLen ?_; omega) | (refine List.forall_mem_cons.2 ⟨?_, ?_⟩) | (simp only [go_sem, zqc, zqb, List.mem_cons, List.not_mem_nil, forall_eq]; done)))
      all_goals (first | omega | (rw [ok_agg]; simp [D.atom]; done) | (refine hN0 (e2, kp ++ [(ti, tm, V)]) _ hlt hsu.symm (by refine Wk.auto ?_ ?_ <;> simp [extraK, lk, killL, St.kill, wipeO, wipeS, AV.has, AV.hasL, AO.wipe, List.map_set, updSt, insL, dropS, ins, D.ints, List.map_append, List.map_cons, List.map_nil]); done))
  · obtain rfl : i = ts.length := by omega
    rw [List.take_length] at hs
    rw [← hs] at hE0
    have hE := hE0
    simp (disch := first | omega | decide +kernel) only [D.ints, go_sem, zqa, zqb, zqc, zqd, zqe, ↓reduceIte, reduceCtorEq, zqf, zqg, zqh]
    (repeat' (first | ((first | (refine gsel_split (fun q' => ?_) (fun q' => ?_) <;> (have h' := q') <;> (try simp only [decide_eq_true_eq, decide_eq_false_iff_not, zba, zbb, bne_iff_ne, ne_eq, beq_iff_eq, bne_eq_false_iff_eq, beq_eq_false_iff_ne, zia, zib, zic, zid, zda, zbc, zbd, zbe, gt_iff_lt, ge_iff_le] at h') <;> try (exfalso; omega)) | (have q' := trivial; first | refine hE _ _ ret_ne ?_ | refine hE _ _ exit_ne ?_)) <;> (try simp (disch := first | omega | decide +kernel) only [q', D.ints, go_sem, zqa, zqb, zqc, zqd, zqe, ↓reduceIte, reduceCtorEq, zqf, zqg, zqh]) <;> clear q') | (refine hN _ ?_ ?_ Wk.kk) | (with_reducible refine And.intro ?_ ?_) | (with_reducible omega) | (exact ok_ints) | (exact cells_ints) | (exact no_mem) | (with_reducible exact plain_ints) | (refine le_maxLen ?_; omega) | (refine List.forall_mem_cons.2 ⟨?_, ?_⟩) | (simp only [go_sem, zqc, zqb, List.mem_cons, List.not_mem_nil, forall_eq]; done)))
    all_goals (first | omega | exact ret_rp [7, 900000001, 900000002] rfl rfl rfl rfl)
end
end Abs.Y

namespace Abs
open Go Go.Proofs
theorem Ctr.data2 {P : Program} {f : FuncId} {xs : List D} {sh : Bool} {e1 e2 : TypeId} {k1 k2 : Nat} {x1 x2 : List D} (h : Ctr P f xs sh (.tup [.sl 0, .sl 1]) [(0, .arr e1 k1 x1), (1, .arr e2 k2 x2)]) : Ctr P f xs true (.d (.tup [.slice x1, .slice x2])) [] := by
  refine ⟨h.1, fun S w vs hl hr => (h.2 S w vs hl hr).mono fun en w' ⟨v, he, hf, β, φ, hrel, hobj, hown, hdis⟩ => ⟨v, he, hf, β, φ, ?_, by simp [lk], by simp [lk], by simp [lk]⟩⟩
  have d1 := rd_of_arr (S' := free (fun g => w.heap.size ≤ g ∨ (true = true ∧ S g)) φ []) (hobj 0 (.arr e1 k1 x1) (by simp [lk])) (fun g hg _ => ⟨hg.1.imp id fun h => ⟨rfl, h.2⟩, by simp [lk]⟩) fun g hg => ⟨.inl (hown 0 (.arr e1 k1 x1) g (by simp [lk]) hg), by simp [lk]⟩
  have d2 := rd_of_arr (S' := free (fun g => w.heap.size ≤ g ∨ (true = true ∧ S g)) φ []) (hobj 1 (.arr e2 k2 x2) (by simp [lk])) (fun g hg _ => ⟨hg.1.imp id fun h => ⟨rfl, h.2⟩, by simp [lk]⟩) fun g hg => ⟨.inl (hown 1 (.arr e2 k2 x2) g (by simp [lk]) hg), by simp [lk]⟩
  cases hrel with
  | tup hl2 hrl =>
    refine .d (.tup (by simpa using hl2) fun i hi => ?_)
    match i, hi with
    | 0, _ =>
      have := hrl 0 (by simp)
      simp only [List.getD_cons_zero] at this ⊢
      generalize hq : List.getD _ 0 Go.undef = q at *
      cases this with
      | sl => simpa using d1
    | 1, _ =>
      have := hrl 1 (by simp)
      simp only [List.getD_cons_succ, List.getD_cons_zero] at this ⊢
      generalize hq : List.getD _ 1 Go.undef = q at *
      cases this with
      | sl => simpa using d2
end Abs
namespace Abs.Y
open Go Go.Proofs Abs
open Nat renaming reduceEqDiff → zqa, reduceLT → zqb, reduceAdd → zqc, reduceMul → zqd, reduceSub → zqe, reduceLeDiff → zqf, reduceSubDiff → zqg, reduceBEq → zqh
open Bool renaming not_eq_true' → zba, not_eq_false' → zbb, and_eq_true → zbc, or_eq_true → zbd, or_eq_false_iff → zbe
open Int renaming ofNat_lt → zia, ofNat_le → zib, not_lt → zic, not_le → zid
open Decidable renaming not_not → zda
set_option maxRecDepth 100000

def okIn (p v : Int) (cs : List (List Int)) (d : Int) (a : List (Int × Int)) : Bool := ((primeB p v && okCnf v cs) && degB d) && isT p (2 ^ v.toNat) a
def InP (p v : Int) (cs : List (List Int)) (d : Int) (a : List (Int × Int)) : Prop := Sp p (2 ^ v.toNat) (prodsP p v.toNat (gradN (2 ^ v.toNat)) cs d) (dnT (2 ^ v.toNat) a)
theorem bool_comm2 {a b : Bool} : (a && b) = (b && a) := by cases a <;> cases b <;> rfl
end Abs.Y
