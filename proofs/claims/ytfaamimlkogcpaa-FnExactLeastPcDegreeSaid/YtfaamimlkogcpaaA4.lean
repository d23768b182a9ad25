/- What functions of this program compute, as contracts over plain data, with what the proofs need of them. No condition. -/
import Derived.Test.YtfaamimlkogcpaaD2
import Derived.Test.YtfaamimlkogcpaaV2
import Derived.Test.YtfaamimlkogcpaaE0
set_option linter.all false
namespace Abs
open Go Go.Proofs
theorem retM_of {P : Program} {rs : List ResultVar} {u : Nat → Value} {keep : List Nat} {sh : Bool} {res : AV} {oo : List (Nat × AO)} {st : St} {c : Prop} {avs : List AV} (κ : Nat → Nat) (h : resV P st rs = some (c, avs)) (hc : c) (hr : oneOf avs = res.ren κ)
    (ho : ∀ p ∈ oo, lk (κ p.1) st.o = some (p.2.ren κ)) (hi : ∀ p ∈ oo, ∀ q ∈ oo, κ p.1 = κ q.1 → p.1 = q.1) (hk : keptM st u κ keep) (hs : sh = true ∨ (res.plain ∧ plainO oo)) : retM P rs u keep sh res oo .ret st := by
  simp only [retM, h]
  exact ⟨hc, ⟨κ, hr, ho, hi, hk⟩, hs⟩
end Abs
namespace Abs.Y
open Go Go.Proofs Abs
open Nat renaming reduceEqDiff → zqa, reduceLT → zqb, reduceAdd → zqc, reduceMul → zqd, reduceSub → zqe, reduceLeDiff → zqf, reduceSubDiff → zqg, reduceBEq → zqh
open Bool renaming not_eq_true' → zba, not_eq_false' → zbb, and_eq_true → zbc, or_eq_true → zbd, or_eq_false_iff → zbe
open Int renaming ofNat_lt → zia, ofNat_le → zib, not_lt → zic, not_le → zid
open Decidable renaming not_not → zda
set_option maxRecDepth 100000

@[reducible] def echO (p : Int) (u : Nat) (R M : List (List Int)) (many : Nat) : List (Nat × AO) :=
  [(2, .dp (some (78, 1)) (M.map D.ints) none), (1, .arr 78 1 (R.map D.ints)), (0, .box 142 [.d (.int .i64 p), .d (.int .i64 u), .sl 1, .sl 2, .d (.int .i64 many)])]
theorem map_set_self {α : Type} (f : α → D) (z : α) (l : List α) {i : Nat} (hi : i < l.length) : (l.map f).set i (f (l.getD i z)) = l.map f := by
  refine List.ext_getElem (by simp) fun j h1 h2 => ?_
  rw [List.getElem_set]
  split
  · rename_i e; subst e
    simp [List.getD_eq_getElem?_getD, hi]
  · rfl
section
variable {p : Int} {u : Nat} (hp : 1 < p ∧ p ≤ 5) (hu : u ≤ 6)
include hp hu
set_option maxHeartbeats 8000000 in
theorem reduceM_ok {R M : List (List Int)} {many : Nat} {a : List Int} (hP : EchP p u R M many) (ha : Vec p (2 ^ u) a) :
    CtrM Try.prog 73 [.p 0 0, .d (.ints a)] (echO p u R M many) [0, 1, 2] true (.tup [.d (.ints (redQ p R M a many R.length).1), .sl 3])
      ((3, .arr 3 1 ((redQ p R M a many R.length).2.map (.int .i64))) :: echO p u R M many) := by
  have h2 := pow_le6 hu
  have hb := hP.bd
  have hmb := hP.many
  have hml := hP.len
  have er : List.replicate many (D.int .i64 0) = (List.replicate many (0 : Int)).map (D.int .i64) := by simp
  refine CtrM.of (n := 82) (rs := [.tmp 4, .tmp 5]) Try.func73 rfl rfl Try.ntmps73 rfl rfl (by kernel_rfl) Try.checked.mixed ?_; intro u
  simp (disch := first | omega | decide +kernel) only [D.ints, er, echO, go_sem, zqa, zqb, zqc, zqd, zqe, ↓reduceIte, reduceCtorEq, zqf, zqg, zqh]
  (repeat' (first | ((first | (refine gsel_split (fun q' => ?_) (fun q' => ?_) <;> (have h' := q') <;> (try simp only [decide_eq_true_eq, decide_eq_false_iff_not, zba, zbb, bne_iff_ne, ne_eq, beq_iff_eq, bne_eq_false_iff_eq, beq_eq_false_iff_ne, zia, zib, zic, zid, zda, zbc, zbd, zbe, gt_iff_lt, ge_iff_le] at h') <;> try (exfalso; omega)) | (have q' := trivial; first | refine hE _ _ ret_ne ?_ | refine hE _ _ exit_ne ?_)) <;> (try simp (disch := first | omega | decide +kernel) only [q', D.ints, er, go_sem, zqa, zqb, zqc, zqd, zqe, ↓reduceIte, reduceCtorEq, zqf, zqg, zqh]) <;> clear q') | (refine hN _ ?_ ?_ Wk.kk) | (with_reducible refine And.intro ?_ ?_) | (with_reducible omega) | (exact ok_ints) | (exact cells_ints) | (exact no_mem) | (with_reducible exact plain_ints) | (refine le_maxLen ?_; omega) | (refine List.forall_mem_cons.2 ⟨?_, ?_⟩) | (simp only [go_sem, zqc, zqb, List.mem_cons, List.not_mem_nil, forall_eq]; done)))
  all_goals (first | omega | skip)
  refine Ok.loopN [79, 78, 77, 76, 75, 74, 73, 72, 71, 70, 69, 68, 67, 66, 65, 64, 63, 62, 61, 60, 59, 58, 57, 56, 55, 54, 53, 52, 51, 50, 49, 48, 47, 46, 45, 44, 43, 42, 41, 40, 39, 38, 37, 36, 35, 34, 33, 32, 31, 30, 29, 28, 27, 26, 25, 24, 23, 22, 11, 10, 9, 8, 7, 1] (fun i (s : List Int × List Int) => [(22, .d (.int .i64 (i : Nat))), (1, .d (.ints s.1))]) (fun _ (s : List Int × List Int) => [(16, .arr 3 1 (s.2.map (D.int .i64)))]) R.length
    (fun i s => s = redQ p R M a many i) (a, List.replicate many 0) rfl (by refine Wk.auto ?_ ?_ <;> simp [extraK, lk, killL, St.kill, wipeO, wipeS, AV.has, AV.hasL, AO.wipe, List.map_set, updSt, insL, dropS, ins, D.ints]) ?_
  rintro R0 i ⟨x, y⟩ hN0 hE0 hi hs
  have hv := redQ_vec (p := p) (by omega) (M := M) (many := many) hP.vec ha i (by omega)
  rw [← hs] at hv
  obtain ⟨hx, hy⟩ := hv
  simp only at hx hy
  by_cases hlt : i < R.length
  · have hsu := redQ_succ p R M a many i
    rw [← hs] at hsu
    unfold redP at hsu
    simp only at hsu
    have hrm : R.getD i [] ∈ R := getD_mem (z := ([] : List Int)) hlt
    have hmm : M.getD i [] ∈ M := getD_mem (z := ([] : List Int)) (by omega)
    have hr := hP.vec _ hrm
    obtain ⟨hmd1, hmd2⟩ := hP.mad _ hmm
    have hset : (M.map D.ints).set i (.slice ((M.getD i []).map (.int .i64))) = M.map D.ints := map_set_self D.ints [] M (i := i) (by omega)
    have c1 := leading_ok (v := R.getD i []) (by have := hr.1; omega)
    obtain ⟨hl1, hl2, _⟩ := (ldI_or (R.getD i [])).resolve_left fun h => hP.nz _ hrm (by rw [h.1]; decide)
    rw [hl1] at c1
    clear hs
    generalize hrr : R.getD i [] = r at *
    generalize hmr : M.getD i [] = m at *
    generalize ldG r = l at *
    have hxl := hx.2 l
    have hxn := hx.1
    have hrn := hr.1
    have hyn := hy.1
    generalize hc : x.getD l 0 = c at *
    by_cases hz : c = 0
    · rw [if_pos hz] at hsu
      have hb : (c != 0) = false := by rw [hz]; rfl
      simp (disch := first | omega | decide +kernel) only [D.ints, hrr, hmr, hc, hb, go_sem, zqa, zqb, zqc, zqd, zqe, ↓reduceIte, reduceCtorEq, zqf, zqg, zqh]
      (repeat' (first | ((first | (refine gsel_split (fun q' => ?_) (fun q' => ?_) <;> (have h' := q') <;> (try simp only [decide_eq_true_eq, decide_eq_false_iff_not, zba, zbb, bne_iff_ne, ne_eq, beq_iff_eq, bne_eq_false_iff_eq, beq_eq_false_iff_ne, zia, zib, zic, zid, zda, zbc, zbd, zbe, gt_iff_lt, ge_iff_le] at h') <;> try (exfalso; omega)) | (have q' := trivial; first | refine callX_new (c1) rfl (by decide) ?_ | refine callY_new (c1) rfl ?_ | refine hE _ _ ret_ne ?_ | refine hE _ _ exit_ne ?_)) <;> (try simp (disch := first | omega | decide +kernel) only [q', D.ints, hrr, hmr, hc, hb, go_sem, zqa, zqb, zqc, zqd, zqe, ↓reduceIte, reduceCtorEq, zqf, zqg, zqh]) <;> clear q') | (refine hN _ ?_ ?_ Wk.kk) | (with_reducible refine And.intro ?_ ?_) | (with_reducible omega) | (exact ok_ints) | (exact cells_ints) | (exact no_mem) | (with_reducible exact plain_ints) | (refine le_maxLen ?_; omega) | (refine List.forall_mem_cons.2 ⟨?_, ?_⟩) | (simp only [go_sem, zqc, zqb, List.mem_cons, List.not_mem_nil, forall_eq]; done)))
      all_goals (first | omega | (refine hN0 (x, y) _ hlt hsu.symm (by refine Wk.auto ?_ ?_ <;> simp [extraK, lk, killL, St.kill, wipeO, wipeS, AV.has, AV.hasL, AO.wipe, List.map_set, updSt, insL, dropS, ins, D.ints]); done))
    · rw [if_neg hz] at hsu
      have hb : (c != 0) = true := bne_iff_ne.2 hz
      have c2 := Ctr.data1 (plus_ok hp hu (k := p - c) hx hr (by omega))
      generalize addD p (p - c) x r = x2 at *
      simp (disch := first | omega | decide +kernel) only [D.ints, hrr, hmr, hc, hb, go_sem, zqa, zqb, zqc, zqd, zqe, ↓reduceIte, reduceCtorEq, zqf, zqg, zqh]
      (repeat' (first | ((first | (refine gsel_split (fun q' => ?_) (fun q' => ?_) <;> (have h' := q') <;> (try simp only [decide_eq_true_eq, decide_eq_false_iff_not, zba, zbb, bne_iff_ne, ne_eq, beq_iff_eq, bne_eq_false_iff_eq, beq_eq_false_iff_ne, zia, zib, zic, zid, zda, zbc, zbd, zbe, gt_iff_lt, ge_iff_le] at h') <;> try (exfalso; omega)) | (have q' := trivial; first | refine callX_new (c1) rfl (by decide) ?_ | refine callY_new (c1) rfl ?_ | refine callX_shared (c2) rfl (by decide) ?_ | refine callY_shared (c2) rfl ?_ | refine hE _ _ ret_ne ?_ | refine hE _ _ exit_ne ?_)) <;> (try simp (disch := first | omega | decide +kernel) only [q', D.ints, hrr, hmr, hc, hb, go_sem, zqa, zqb, zqc, zqd, zqe, ↓reduceIte, reduceCtorEq, zqf, zqg, zqh]) <;> clear q') | (refine hN _ ?_ ?_ Wk.kk) | (with_reducible refine And.intro ?_ ?_) | (with_reducible omega) | (exact ok_ints) | (exact cells_ints) | (exact no_mem) | (with_reducible exact plain_ints) | (refine le_maxLen ?_; omega) | (refine List.forall_mem_cons.2 ⟨?_, ?_⟩) | (simp only [go_sem, zqc, zqb, List.mem_cons, List.not_mem_nil, forall_eq]; done)))
      all_goals (first | omega | skip)
      refine Ok.loopN [78, 77, 76, 75, 74, 73, 72, 71, 70, 69, 68, 67, 66, 65, 64, 63, 62, 61, 60, 59, 58, 57, 56, 11, 10] (fun j _ => [(56, .d (.int .i64 (j : Nat)))]) (fun _ (w : List Int) => [(16, .arr 3 1 (w.map (D.int .i64)))]) m.length
        (fun j w => w = (List.range j).foldl (fun x k => stP p x k (c * m.getD k 0)) y) y rfl (by refine Wk.auto ?_ ?_ <;> simp [extraK, lk, killL, St.kill, wipeO, wipeS, AV.has, AV.hasL, AO.wipe, List.map_set, updSt, insL, dropS, ins, D.ints]) ?_
      rintro R2 j w hN hE hj hw
      have hwv : Vec p many w := by rw [hw]; exact fold_vec (fun v k h => h.st (by omega) _ _) _ hy
      by_cases hjt : j < m.length
      · have hs2 : (List.range (j + 1)).foldl (fun x k => stP p x k (c * m.getD k 0)) y = w.set j ((w.getD j 0 + c * m.getD j 0) % p) := by
          rw [List.range_succ, List.foldl_append, ← hw]; rfl
        have hmj := hmd2.2 j
        have hwj := hwv.2 j
        have hwl := hwv.1
        clear hw
        have hcd : 0 ≤ c * m.getD j 0 ∧ c * m.getD j 0 ≤ 25 := ⟨Int.mul_nonneg hxl.1 hmj.1, Int.le_trans (Int.mul_le_mul (show c ≤ 5 by omega) (show m.getD j 0 ≤ 5 by omega) hmj.1 (by decide)) (by decide)⟩
        have em : (w.getD j 0 + c * m.getD j 0).tmod p = (w.getD j 0 + c * m.getD j 0) % p := Int.tmod_eq_emod_of_nonneg (by omega)
        have hp0 : ¬ p = 0 := by omega
        simp (disch := first | omega | decide +kernel) only [D.ints, hmr, em, Option.isSome_none, Bool.false_eq_true, if_false, go_sem, zqa, zqb, zqc, zqd, zqe, ↓reduceIte, reduceCtorEq, zqf, zqg, zqh]
        (repeat' (first | ((first | (refine gsel_split (fun q' => ?_) (fun q' => ?_) <;> (have h' := q') <;> (try simp only [decide_eq_true_eq, decide_eq_false_iff_not, zba, zbb, bne_iff_ne, ne_eq, beq_iff_eq, bne_eq_false_iff_eq, beq_eq_false_iff_ne, zia, zib, zic, zid, zda, zbc, zbd, zbe, gt_iff_lt, ge_iff_le] at h') <;> try (exfalso; omega)) | (have q' := trivial; first | refine hE _ _ ret_ne ?_ | refine hE _ _ exit_ne ?_)) <;> (try simp (disch := first | omega | decide +kernel) only [q', D.ints, hmr, em, Option.isSome_none, Bool.false_eq_true, if_false, go_sem, zqa, zqb, zqc, zqd, zqe, ↓reduceIte, reduceCtorEq, zqf, zqg, zqh]) <;> clear q') | (refine hN _ ?_ ?_ Wk.kk) | (with_reducible refine And.intro ?_ ?_) | (with_reducible omega) | (exact ok_ints) | (exact cells_ints) | (exact no_mem) | (with_reducible exact plain_ints) | (refine le_maxLen ?_; omega) | (refine List.forall_mem_cons.2 ⟨?_, ?_⟩) | (simp only [go_sem, zqc, zqb, List.mem_cons, List.not_mem_nil, forall_eq]; done)))
        all_goals (first | omega | (refine hN (w.set j ((w.getD j 0 + c * m.getD j 0) % p)) _ hjt hs2.symm (by refine Wk.auto ?_ ?_ <;> simp [extraK, lk, killL, St.kill, wipeO, wipeS, AV.has, AV.hasL, AO.wipe, List.map_set, updSt, insL, dropS, ins, D.ints]); done))
      · obtain rfl : j = m.length := by omega
        have hw2 : w = addM p c y m := hw
        rw [← hw2] at hsu
        simp (disch := first | omega | decide +kernel) only [D.ints, go_sem, zqa, zqb, zqc, zqd, zqe, ↓reduceIte, reduceCtorEq, zqf, zqg, zqh]
        (repeat' (first | ((first | (refine gsel_split (fun q' => ?_) (fun q' => ?_) <;> (have h' := q') <;> (try simp only [decide_eq_true_eq, decide_eq_false_iff_not, zba, zbb, bne_iff_ne, ne_eq, beq_iff_eq, bne_eq_false_iff_eq, beq_eq_false_iff_ne, zia, zib, zic, zid, zda, zbc, zbd, zbe, gt_iff_lt, ge_iff_le] at h') <;> try (exfalso; omega)) | (have q' := trivial; first | refine hE _ _ ret_ne ?_ | refine hE _ _ exit_ne ?_)) <;> (try simp (disch := first | omega | decide +kernel) only [q', D.ints, go_sem, zqa, zqb, zqc, zqd, zqe, ↓reduceIte, reduceCtorEq, zqf, zqg, zqh]) <;> clear q') | (refine hN _ ?_ ?_ Wk.kk) | (with_reducible refine And.intro ?_ ?_) | (with_reducible omega) | (exact ok_ints) | (exact cells_ints) | (exact no_mem) | (with_reducible exact plain_ints) | (refine le_maxLen ?_; omega) | (refine List.forall_mem_cons.2 ⟨?_, ?_⟩) | (simp only [go_sem, zqc, zqb, List.mem_cons, List.not_mem_nil, forall_eq]; done)))
        all_goals (first | omega | (refine hN0 (x2, w) _ hlt hsu.symm ((Wk.fold 2 (by simp (disch := first | omega | decide +kernel) only [go_sem, zqa, zqb, zqc, zqd, zqe, ↓reduceIte, reduceCtorEq, zqf, zqg, zqh]; rfl)).trans (by refine Wk.auto ?_ ?_ <;> simp [extraK, lk, killL, St.kill, wipeO, wipeS, AV.has, AV.hasL, AO.wipe, List.map_set, updSt, insL, dropS, ins, D.ints, hset])); done))
  · obtain rfl : i = R.length := by omega
    rw [← hs] at hE0
    have hE := hE0
    simp (disch := first | omega | decide +kernel) only [D.ints, go_sem, zqa, zqb, zqc, zqd, zqe, ↓reduceIte, reduceCtorEq, zqf, zqg, zqh]
    (repeat' (first | ((first | (refine gsel_split (fun q' => ?_) (fun q' => ?_) <;> (have h' := q') <;> (try simp only [decide_eq_true_eq, decide_eq_false_iff_not, zba, zbb, bne_iff_ne, ne_eq, beq_iff_eq, bne_eq_false_iff_eq, beq_eq_false_iff_ne, zia, zib, zic, zid, zda, zbc, zbd, zbe, gt_iff_lt, ge_iff_le] at h') <;> try (exfalso; omega)) | (have q' := trivial; first | refine hE _ _ ret_ne ?_ | refine hE _ _ exit_ne ?_)) <;> (try simp (disch := first | omega | decide +kernel) only [q', D.ints, go_sem, zqa, zqb, zqc, zqd, zqe, ↓reduceIte, reduceCtorEq, zqf, zqg, zqh]) <;> clear q') | (refine hN _ ?_ ?_ Wk.kk) | (with_reducible refine And.intro ?_ ?_) | (with_reducible omega) | (exact ok_ints) | (exact cells_ints) | (exact no_mem) | (with_reducible exact plain_ints) | (refine le_maxLen ?_; omega) | (refine List.forall_mem_cons.2 ⟨?_, ?_⟩) | (simp only [go_sem, zqc, zqb, List.mem_cons, List.not_mem_nil, forall_eq]; done)))
    all_goals (refine retM_of (nth [0, 1, 2, 16]) rfl ?_ rfl ?_ ?_ ?_ (.inl rfl))
    all_goals (first | trivial | (simp [lk, nth, AO.ren, AV.renL, AV.ren]; done) | (simp [keptM, nth, lk]; done))
end
end Abs.Y

namespace Abs.Y
open Go Go.Proofs Abs
open Nat renaming reduceEqDiff → zqa, reduceLT → zqb, reduceAdd → zqc, reduceMul → zqd, reduceSub → zqe, reduceLeDiff → zqf, reduceSubDiff → zqg, reduceBEq → zqh
open Bool renaming not_eq_true' → zba, not_eq_false' → zbb, and_eq_true → zbc, or_eq_true → zbd, or_eq_false_iff → zbe
open Int renaming ofNat_lt → zia, ofNat_le → zib, not_lt → zic, not_le → zid
open Decidable renaming not_not → zda
set_option maxRecDepth 100000

def mulX (p : Int) (u : Nat) (v : List Int) (x : Int) : List Int := mulD p (2 ^ u) v (litD p u x)
structure Cl (p : Int) (u : Nat) (cs : List (List Int)) (d : Int) (W : List Int → Prop) : Prop where
  zero : W (List.replicate (2 ^ u) 0)
  add : ∀ v w k, Vec p (2 ^ u) v → Vec p (2 ^ u) w → W v → W w → W (addD p k v w)
  cl : ∀ c ∈ cs, (c.length : Int) ≤ d → W (clauseD p u c)
  mul : ∀ v, Vec p (2 ^ u) v → W v → degD v < d → ∀ x : Int, 1 ≤ x → x ≤ u → W (mulX p u v x)
def Mn (p : Int) (u : Nat) (cs : List (List Int)) (d : Int) (v : List Int) : Prop := ∀ W, Cl p u cs d W → W v
theorem sp_ld {p : Int} {n : Nat} {R : List (List Int)} {v : List Int} (hp : 1 < p) (hn : n ≤ 64) (h : Ech p n ldG R) (hv : Sp p n R v) (hz : ¬ ldI v < 0) : ∃ s ∈ R, ldG s = ldG v := by
  have hvv := hv.vec (by omega) h.vec
  by_cases hh : ∃ s ∈ R, ldG s = ldG v
  · exact hh
  · exfalso
    obtain ⟨_, _, hv3, hv4⟩ := (ldI_or v).resolve_left fun h => hz (by rw [h.1]; decide)
    have key : ∀ (S : List (List Int)) (a : List Int), Ech p n ldG S → Vec p n a → (∀ s ∈ S, a.getD (ldG s) 0 = v.getD (ldG s) 0) → (∀ s ∈ S, ldG s ≠ ldG v) → (redD p ldG S a).getD (ldG v) 0 = a.getD (ldG v) 0 := by
      intro S
      induction S with
      | nil => exact fun a _ _ _ _ => rfl
      | cons r S ih =>
        intro a hS ha he hne
        have hr := hS.vec r (by simp)
        have hpw := List.pairwise_cons.1 hS.pw
        have hS' : Ech p n ldG S := ⟨fun x hx => hS.vec x (by simp [hx]), fun x hx => hS.one x (by simp [hx]), hpw.2⟩
        have hget : ∀ i, (addD p (p - a.getD (ldG r) 0) a r).getD i 0 = (a.getD i 0 + (p - a.getD (ldG r) 0) * r.getD i 0) % p := fun i => addD_get (by rw [ha.1, hr.1]) i
        rw [redD_cons, ih _ hS' (Vec.addD (by omega) ha.1 hr.1) (fun s hs => ?_) (fun s hs => hne s (by simp [hs]))]
        · rw [hget]
          have h1 := he r (by simp)
          have ha2 := ha.2 (ldG v)
          by_cases hc : v.getD (ldG r) 0 = 0
          · rw [h1, hc, Int.sub_zero, emod_eq_of (y := a.getD (ldG v) 0) (r.getD (ldG v) 0) rfl, Int.emod_eq_of_lt ha2.1 ha2.2]
          · have h2 := hv4 _ hc
            have h3 : r.getD (ldG v) 0 = 0 := by
              by_cases h5 : r.getD (ldG v) 0 = 0
              · exact h5
              · have h6 := ((lds_G hn).top r hr.1 _ h5).2
                have h7 := (lds_G hn).eq (v := v) hvv.1 hc fun i hi => Nat.le_trans (hv4 i hi) h6
                exact absurd h7.symm (hne r (by simp))
            rw [h3, Int.mul_zero, Int.add_zero, Int.emod_eq_of_lt ha2.1 ha2.2]
        · rw [hget, (hpw.1 s hs).2, Int.mul_zero, Int.add_zero]
          have ha2 := ha.2 (ldG s)
          rw [Int.emod_eq_of_lt ha2.1 ha2.2, he s (by simp [hs])]
    have h1 := key R v h hvv (fun s _ => rfl) fun s hs e => hh ⟨s, hs, e⟩
    rw [redD_sp (by omega) ldG h.vec h.tri hv, getD_rep] at h1
    exact hv3 h1.symm
theorem nodup_len : ∀ {l l' : List Nat}, l.Nodup → (∀ x ∈ l, x ∈ l') → l.length ≤ l'.length
  | [], _, _, _ => Nat.zero_le _
  | x :: r, l', h, hs => by
    rw [List.nodup_cons] at h
    have h1 := hs x (by simp)
    have h2 := nodup_len (l' := l'.erase x) h.2 fun y hy => (List.mem_erase_of_ne (fun e => h.1 (by rw [← e]; exact hy))).2 (hs y (by simp [hy]))
    rw [List.length_erase_of_mem h1] at h2
    have := List.length_pos_of_mem h1
    simp only [List.length_cons]; omega
theorem Ech.nodup {p : Int} {n : Nat} {R : List (List Int)} (h : Ech p n ldG R) : (R.map ldG).Nodup := by
  rw [List.nodup_iff_pairwise_ne, List.pairwise_map]
  refine List.Pairwise.imp_of_mem (fun {a b} ha hb hab e => ?_) h.pw
  have := h.one b hb
  rw [← e, hab.1] at this
  exact absurd this (by decide)
theorem Ech.nz {p : Int} {n : Nat} {R : List (List Int)} (h : Ech p n ldG R) {r : List Int} (hr : r ∈ R) : ¬ ldI r < 0 := fun hn => by
  have := h.one r hr
  rw [ldI_neg.1 hn] at this
  exact absurd this (by decide)
theorem ech_le {p : Int} {n : Nat} {R R' : List (List Int)} (hp : 1 < p) (hn : n ≤ 64) (h : Ech p n ldG R) (h' : Ech p n ldG R') (hs : ∀ v, Sp p n R v → Sp p n R' v) : R.length ≤ R'.length := by
  have h1 := nodup_len (l := R.map ldG) (l' := R'.map ldG) h.nodup fun x hx => by
    obtain ⟨r, hr, rfl⟩ := List.mem_map.1 hx
    obtain ⟨s, h2, h3⟩ := sp_ld hp hn h' (hs r (Sp.self (by omega) h.vec hr)) (h.nz hr)
    rw [← h3]; exact List.mem_map_of_mem h2
  simpa using h1
theorem ech_len {p : Int} {n : Nat} {R R' : List (List Int)} (hp : 1 < p) (hn : n ≤ 64) (h : Ech p n ldG R) (h' : Ech p n ldG R') (hs : SpEq p n R R') : R.length = R'.length :=
  Nat.le_antisymm (ech_le hp hn h h' fun v => (hs v).1) (ech_le hp hn h' h fun v => (hs v).2)
theorem ech_bd {p : Int} {n : Nat} {R : List (List Int)} (hn : n ≤ 64) (h : Ech p n ldG R) : R.length ≤ n := by
  have h1 := nodup_len (l := R.map ldG) (l' := List.range n) h.nodup fun x hx => by
    obtain ⟨r, hr, rfl⟩ := List.mem_map.1 hx
    obtain ⟨_, h2, _⟩ := (ldI_or r).resolve_left fun e => h.nz hr (by rw [e.1]; decide)
    rw [List.mem_range, ← (h.vec r hr).1]; exact h2
  simpa using h1
theorem sp_deg {p : Int} {n : Nat} {R : List (List Int)} {v : List Int} (hp : 1 < p) (hn : n ≤ 64) (h : Ech p n ldG R) (hv : Sp p n R v) {d : Int} (hd : degD v < d) : Sp p n (R.filter fun r => decide (degD r < d)) v := by
  have hvv := hv.vec (by omega) h.vec
  have key : ∀ (S : List (List Int)) (a : List Int), Ech p n ldG S → Vec p n a → (∀ s ∈ S, ¬ degD s < d → a.getD (ldG s) 0 = 0) → redD p ldG S a = redD p ldG (S.filter fun r => decide (degD r < d)) a := by
    intro S
    induction S with
    | nil => exact fun a _ _ _ => rfl
    | cons r S ih =>
      intro a hS ha he
      have hr := hS.vec r (by simp)
      have hpw := List.pairwise_cons.1 hS.pw
      have hS' : Ech p n ldG S := ⟨fun x hx => hS.vec x (by simp [hx]), fun x hx => hS.one x (by simp [hx]), hpw.2⟩
      by_cases hdr : degD r < d
      · rw [List.filter_cons_of_pos (by simpa using hdr), redD_cons, redD_cons]
        refine ih _ hS' (Vec.addD (by omega) ha.1 hr.1) fun s hs hsd => ?_
        rw [addD_get (by rw [ha.1, hr.1]), he s (by simp [hs]) hsd, (hpw.1 s hs).2]; simp
      · rw [List.filter_cons_of_neg (by simpa using hdr), redD_cons, he r (by simp) hdr, Int.sub_zero, addD_mul 1 (by omega) ha hr.1]
        exact ih a hS' ha fun s hs hsd => he s (by simp [hs]) hsd
  have hF : AllV p n (R.filter fun r => decide (degD r < d)) := fun r hr => h.vec r (List.mem_filter.1 hr).1
  refine (redD_in (by omega) ldG hF hF (fun r hr => Sp.self (by omega) hF hr) hvv).1 ?_
  rw [← key R v h hvv fun s hs hsd => ?_, redD_sp (by omega) ldG h.vec h.tri hv]
  · exact .zero
  · by_cases hc : v.getD (ldG s) 0 = 0
    · exact hc
    · have h1 := degD_get hc
      have h2 := degD_ld (v := s) (by rw [(h.vec s hs).1]; exact hn) (h.nz hs)
      omega
theorem mulX_sp {p : Int} {u : Nat} {R S : List (List Int)} {v : List Int} (hp : 0 < p) (hR : AllV p (2 ^ u) R) (hS : AllV p (2 ^ u) S) (x : Int) (hs : ∀ s ∈ S, Sp p (2 ^ u) R (mulX p u s x)) (hv : Sp p (2 ^ u) S v) : Sp p (2 ^ u) R (mulX p u v x) := by
  induction hv with
  | zero => unfold mulX; rw [mul_zero hp]; exact .zero
  | add k h hr ih =>
    unfold mulX at ih ⊢
    rw [mul_lin hp _ (h.vec hp hS).1 (hS _ hr).1]
    exact ih.plus hp hR k (hs _ hr)
theorem sp_least {p : Int} {u : Nat} {cs R : List (List Int)} {d : Int} (hp : 1 < p) (hu : u ≤ 6) (h : Ech p (2 ^ u) ldG R) (h1 : ∀ r ∈ R, Mn p u cs d r) (h2 : ∀ c ∈ cs, (c.length : Int) ≤ d → Sp p (2 ^ u) R (clauseD p u c))
    (h3 : ∀ r ∈ R, degD r < d → ∀ x : Int, 1 ≤ x → x ≤ u → Sp p (2 ^ u) R (mulX p u r x)) (v : List Int) : Sp p (2 ^ u) R v ↔ Mn p u cs d v := by
  constructor
  · intro hv W hW
    induction hv with
    | zero => exact hW.zero
    | add k hv hr ih => exact hW.add _ _ k (hv.vec (by omega) h.vec) (h.vec _ hr) ih (h1 _ hr W hW)
  · intro hv
    refine hv (Sp p (2 ^ u) R) ⟨.zero, fun v w k _ _ hv hw => hv.plus (by omega) h.vec k hw, h2, fun v _ hv hd x hx1 hx2 => ?_⟩
    refine mulX_sp (S := R.filter fun r => decide (degD r < d)) (by omega) h.vec (fun r hr => h.vec r (List.mem_filter.1 hr).1) x (fun s hs => ?_) (sp_deg hp (pow_le6 hu) h hv hd)
    obtain ⟨hs1, hs2⟩ := List.mem_filter.1 hs
    exact h3 s hs1 (by simpa using hs2) x hx1 hx2
theorem mn_plus {p : Int} {u : Nat} {cs : List (List Int)} {d : Int} {v w : List Int} (k : Int) (hv : Vec p (2 ^ u) v) (hw : Vec p (2 ^ u) w) (h : Mn p u cs d v) (h' : Mn p u cs d w) : Mn p u cs d (addD p k v w) :=
  fun W hW => hW.add v w k hv hw (h W hW) (h' W hW)
theorem mn_sp {p : Int} {u : Nat} {cs R : List (List Int)} {d : Int} {v : List Int} (hp : 0 < p) (hR : AllV p (2 ^ u) R) (h : ∀ r ∈ R, Mn p u cs d r) (hv : Sp p (2 ^ u) R v) : Mn p u cs d v := by
  induction hv with
  | zero => exact fun W hW => hW.zero
  | add k hv hr ih => exact mn_plus k (hv.vec hp hR) (hR _ hr) ih (h _ hr)
theorem sp_one_iff {p : Int} {u : Nat} {R : List (List Int)} (hp : 1 < p) (hu : u ≤ 6) (h : Ech p (2 ^ u) ldG R) : Sp p (2 ^ u) R (monoD u 0) ↔ monoD u 0 ∈ R := by
  have h64 := pow_le6 hu
  have h1 : 0 < 2 ^ u := Nat.pow_pos (by decide)
  have hg : ∀ i, (monoD u 0).getD i 0 = if i = 0 then 1 else 0 := fun i => by
    unfold monoD
    rw [getD_set]
    by_cases e : i = 0
    · subst e; rw [if_pos ⟨rfl, by simp; omega⟩, if_pos rfl]
    · rw [if_neg (fun h => e h.1.symm), if_neg e, getD_rep]
  have hld : ldG (monoD u 0) = 0 := (lds_G h64).eq (mono_len u 0) (by rw [hg]; decide) fun i hi => by
    rw [hg] at hi
    split at hi
    · rename_i e; rw [e]; exact Nat.le_refl _
    · exact absurd rfl hi
  constructor
  · intro hv
    have hnz : ¬ ldI (monoD u 0) < 0 := fun e => by have := ldI_neg.1 e 0; rw [hg] at this; exact absurd this (by decide)
    obtain ⟨s, hs, he⟩ := sp_ld hp h64 h hv hnz
    rw [hld] at he
    have e : s = monoD u 0 := by
      refine vec_ext (p := p) (n := 2 ^ u) (h.vec s hs).1 (mono_len u 0) fun i => ?_
      rw [hg]
      by_cases e : i = 0
      · rw [if_pos e, e]; have := h.one s hs; rwa [he] at this
      · rw [if_neg e]
        by_cases h5 : s.getD i 0 = 0
        · exact h5
        · have h6 := ((lds_G h64).top s (h.vec s hs).1 i h5).2
          rw [he] at h6
          have : kG 0 = 0 := by decide
          unfold kG at h6 this
          omega
    rw [← e]; exact hs
  · exact fun hm => Sp.self (by omega) h.vec hm
end Abs.Y
