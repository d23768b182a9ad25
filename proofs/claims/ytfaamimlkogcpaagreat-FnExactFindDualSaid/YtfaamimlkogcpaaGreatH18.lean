/- What functions of this program compute, as contracts over plain data, with what the proofs need of them. No condition. -/
import Derived.Test.YtfaamimlkogcpaaGreatH12
import Derived.Test.YtfaamimlkogcpaaGreatH15
import Derived.Test.YtfaamimlkogcpaaGreatD3
set_option linter.all false
namespace Abs
open Go Go.Proofs
theorem Packs.three {st av res o0 o1 o2} (i0 i1 i2 : Nat) (hne : i0 ≠ i1 ∧ i0 ≠ i2 ∧ i1 ≠ i2) (h : av = res.ren (nth [i0, i1, i2])) (h0 : lk i0 st.o = some (o0.ren (nth [i0, i1, i2]))) (h1 : lk i1 st.o = some (o1.ren (nth [i0, i1, i2]))) (h2 : lk i2 st.o = some (o2.ren (nth [i0, i1, i2]))) :
    Packs st av res [(2, o2), (1, o1), (0, o0)] := by
  obtain ⟨n1, n2, n3⟩ := hne
  refine ⟨nth [i0, i1, i2], h, fun p hp => ?_, fun p hp q hq e => ?_⟩
  · simp only [List.mem_cons, List.not_mem_nil, or_false] at hp
    rcases hp with rfl | rfl | rfl
    · exact h2
    · exact h1
    · exact h0
  · simp only [List.mem_cons, List.not_mem_nil, or_false] at hp hq
    rcases hp with rfl | rfl | rfl <;> rcases hq with rfl | rfl | rfl <;> first | rfl | exact absurd e ‹_› | exact absurd e.symm ‹_›
theorem ret_rp3 {P : Program} {t u j0 j1 j2 : Nat} {y : D} {o0 o1 o2 : AO} {st : St} (js : List Nat) (h : lk t (frzs js st).s = some (.d y)) (h' : lk u (frzs js st).s = some (.p j0 0)) (h0 : lk j0 (frzs js st).o = some (o0.ren (nth [j0, j1, j2])))
    (h1 : lk j1 (frzs js st).o = some (o1.ren (nth [j0, j1, j2]))) (h2 : lk j2 (frzs js st).o = some (o2.ren (nth [j0, j1, j2]))) (hne : j0 ≠ j1 ∧ j0 ≠ j2 ∧ j1 ≠ j2) :
    retQ P [.tmp t, .tmp u] true (.tup [.d y, .p 0 0]) [(2, o2), (1, o1), (0, o0)] .ret st := by
  refine .inr ⟨rfl, js, ?_⟩
  simp only [retO, resV, h, h']
  exact ⟨trivial, .three j0 j1 j2 hne rfl h0 h1 h2, .inl trivial⟩
end Abs
namespace Abs.Y
open Go Go.Proofs Abs
open Nat renaming reduceEqDiff → zqa, reduceLT → zqb, reduceAdd → zqc, reduceMul → zqd, reduceSub → zqe, reduceLeDiff → zqf, reduceSubDiff → zqg, reduceBEq → zqh
open Bool renaming not_eq_true' → zba, not_eq_false' → zbb, and_eq_true → zbc, or_eq_true → zbd, or_eq_false_iff → zbe
open Int renaming ofNat_lt → zia, ofNat_le → zib, not_lt → zic, not_le → zid
open Decidable renaming not_not → zda
set_option maxRecDepth 100000

section
variable {p : Int} {u : Nat} (hp : p = 2 ∨ p = 3 ∨ p = 5) (hu : u ≤ 6)
include hp hu
set_option maxHeartbeats 16000000 in
theorem independentB_ok {cs : List (List Int)} (hcl : cs.length ≤ 60) {d : Int} (hd : d ≤ 6) :
    Ctr Tryz.prog 25 [.ptr (D.alg p u cs (cs.map (clauseD p u))), .int .i64 d] true
      (.tup [.d (.slice ((indP p u cs d).2.map D.pr)), .p 0 0]) (echO p u (indP p u cs d).1.R (indP p u cs d).1.M (indP p u cs d).1.many) := by
  have h2 := pow_le6 hu
  have hp1 : 1 < p ∧ p ≤ 5 := by omega
  have c0 := products_ok hp1 hu hcl hd
  have hpv : ∀ t ∈ prK p u (gradI (2 ^ u)) cs d cs.length, Vec p (2 ^ u) t.2.2 := fun t ht => by
    unfold prK at ht
    rw [List.mem_flatMap] at ht
    obtain ⟨i, _, h⟩ := ht
    unfold prI at h
    split at h
    · rw [List.mem_map] at h
      obtain ⟨m, _, rfl⟩ := h
      exact prodC_vec hp1.1 u _ m
    · cases h
  have htl := prK_len p u (gradI (2 ^ u)) cs d (n := 64) (fun i => gradI_len h2 _) cs.length
  unfold indP
  generalize prK p u (gradI (2 ^ u)) cs d cs.length = ts at *
  have hsp := indS_ok hp hu hpv
  refine Ctr.of (n := 35) (rs := [.tmp 4, .tmp 5]) Tryz.func25 rfl rfl Tryz.ntmps25 rfl rfl (by kernel_rfl) Tryz.checked.mixed ?_
  simp (disch := first | omega | decide +kernel) only [D.ints, D.alg, go_sem, zqa, zqb, zqc, zqd, zqe, ↓reduceIte, reduceCtorEq, zqf, zqg, zqh]
  (repeat' (first | ((first | (refine gsel_split (fun q' => ?_) (fun q' => ?_) <;> (have h' := q') <;> (try simp only [decide_eq_true_eq, decide_eq_false_iff_not, zba, zbb, bne_iff_ne, ne_eq, beq_iff_eq, bne_eq_false_iff_eq, beq_eq_false_iff_ne, zia, zib, zic, zid, zda, zbc, zbd, zbe, gt_iff_lt, ge_iff_le] at h') <;> try (exfalso; omega)) | (have q' := trivial; first | refine callX_shared (c0) rfl (by decide) ?_ | refine callY_shared (c0) rfl ?_ | refine hE _ _ ret_ne ?_ | refine hE _ _ exit_ne ?_)) <;> (try simp (disch := first | omega | decide +kernel) only [q', D.ints, D.alg, go_sem, zqa, zqb, zqc, zqd, zqe, ↓reduceIte, reduceCtorEq, zqf, zqg, zqh]) <;> clear q') | (refine hN _ ?_ ?_ Wk.kk) | (with_reducible refine And.intro ?_ ?_) | (with_reducible omega) | (exact ok_ints) | (exact cells_ints) | (exact no_mem) | (with_reducible exact plain_ints) | (refine le_maxLen ?_; omega) | (refine List.forall_mem_cons.2 ⟨?_, ?_⟩) | (simp only [go_sem, zqc, zqb, List.mem_cons, List.not_mem_nil, forall_eq]; done)))
  all_goals (first | omega | skip)
  refine Ok.loopN [34, 33, 32, 31, 30, 29, 28, 27, 26, 25, 24, 23, 22, 21, 20, 17, 16, 15, 14, 13, 12, 11, 10, 9, 8, 7, 5, 4, 3, 2] (fun i (_ : EchS × List Pr) => [(20, .d (.int .i64 (i : Nat))), (7, .sl 7)]) (fun _ (s : EchS × List Pr) => (7, .arr 89 3 (s.2.map D.pr)) :: echN 15 900000001 900000002 p u s.1) ts.length
    (fun i s => s = indS p u (ts.take i)) (⟨[], [], 0⟩, []) rfl
    ((Wk.nilObj 900000001 15 2 rfl rfl (by simp) (by decide) (e := 56) (k := 1) (by decide)).trans ((Wk.nilObj 900000002 15 3 (by simp (disch := first | omega | decide +kernel) only [setL, go_sem, zqa, zqb, zqc, zqd, zqe, ↓reduceIte, reduceCtorEq, zqf, zqg, zqh]; rfl) rfl (by simp [setL]) (by decide) (e := 56) (k := 1) (by decide)).trans
      ((Wk.deep 900000002 (by simp (disch := first | omega | decide +kernel) only [setL, go_sem, zqa, zqb, zqc, zqd, zqe, ↓reduceIte, reduceCtorEq, zqf, zqg, zqh]; rfl) (by simp [flat])).trans (by refine Wk.auto ?_ ?_ <;> simp [extraK, lk, killL, St.kill, wipeO, wipeS, AV.has, AV.hasL, AO.wipe, List.map_set, updSt, insL, dropS, ins, setL, D.ints])))) ?_
  rintro R0 i ⟨e, kp⟩ hN0 hE0 hi hs
  obtain ⟨he, hk, _⟩ := hsp i hi
  rw [← hs] at he hk
  simp only at he hk
  by_cases hlt : i < ts.length
  · have hsu := indS_succ p u ts hlt
    rw [← hs] at hsu
    have hei := el_pr hlt
    have hv := hpv _ (getD_mem (z := ((0, 0, []) : Pr)) hlt)
    have hbd := (he.toP hu).bd
    unfold keepI at hsu
    simp only at hsu
    clear hs hsp
    generalize ht : ts.getD i (0, 0, []) = t at *
    obtain ⟨ti, tm, V⟩ := t
    simp only at *
    have c2 := echAdd_ok hp hu he hv
    generalize addE p u e V = e2 at *
    by_cases hl : ldI (restE p e V) < 0
    · rw [if_pos hl] at hsu
      rw [decide_eq_true hl] at c2
      simp (disch := first | omega | decide +kernel) only [D.ints, hei, go_sem, zqa, zqb, zqc, zqd, zqe, ↓reduceIte, reduceCtorEq, zqf, zqg, zqh]
      (repeat' (first | ((first | (refine gsel_split (fun q' => ?_) (fun q' => ?_) <;> (have h' := q') <;> (try simp only [decide_eq_true_eq, decide_eq_false_iff_not, zba, zbb, bne_iff_ne, ne_eq, beq_iff_eq, bne_eq_false_iff_eq, beq_eq_false_iff_ne, zia, zib, zic, zid, zda, zbc, zbd, zbe, gt_iff_lt, ge_iff_le] at h') <;> try (exfalso; omega)) | (have q' := trivial; first | refine callX_mut [15, 900000001, 900000002] [15, 900000001, 900000002] [900000001, 900000002] (c2) ⟨.inl rfl, .inl rfl, trivial⟩ ⟨rfl, rfl, rfl, trivial⟩ rfl (by simp [dstB]) ?_ | refine hE _ _ ret_ne ?_ | refine hE _ _ exit_ne ?_)) <;> (try simp (disch := first | omega | decide +kernel) only [q', D.ints, hei, go_sem, zqa, zqb, zqc, zqd, zqe, ↓reduceIte, reduceCtorEq, zqf, zqg, zqh]) <;> clear q') | (refine hN _ ?_ ?_ Wk.kk) | (with_reducible refine And.intro ?_ ?_) | (with_reducible omega) | (exact ok_ints) | (exact cells_ints) | (exact no_mem) | (with_reducible exact plain_ints) | (refine le_maxLen ?_; omega) | (refine List.forall_mem_cons.2 ⟨?_, ?_⟩) | (simp only [go_sem, zqc, zqb, List.mem_cons, List.not_mem_nil, forall_eq]; done)))
      all_goals (first | omega | (refine hN0 (e2, kp) _ hlt hsu.symm (by refine Wk.auto ?_ ?_ <;> simp [extraK, lk, killL, St.kill, wipeO, wipeS, AV.has, AV.hasL, AO.wipe, List.map_set, updSt, insL, dropS, ins, D.ints]); done))
    · rw [if_neg hl] at hsu
      rw [decide_eq_false hl] at c2
      simp (disch := first | omega | decide +kernel) only [D.ints, hei, go_sem, zqa, zqb, zqc, zqd, zqe, ↓reduceIte, reduceCtorEq, zqf, zqg, zqh]
      (repeat' (first | ((first | (refine gsel_split (fun q' => ?_) (fun q' => ?_) <;> (have h' := q') <;> (try simp only [decide_eq_true_eq, decide_eq_false_iff_not, zba, zbb, bne_iff_ne, ne_eq, beq_iff_eq, bne_eq_false_iff_eq, beq_eq_false_iff_ne, zia, zib, zic, zid, zda, zbc, zbd, zbe, gt_iff_lt, ge_iff_le] at h') <;> try (exfalso; omega)) | (have q' := trivial; first | refine callX_mut [15, 900000001, 900000002] [15, 900000001, 900000002] [900000001, 900000002] (c2) ⟨.inl rfl, .inl rfl, trivial⟩ ⟨rfl, rfl, rfl, trivial⟩ rfl (by simp [dstB]) ?_ | refine hE _ _ ret_ne ?_ | refine hE _ _ exit_ne ?_)) <;> (try simp (disch := first | omega | decide +kernel) only [q', D.ints, hei, go_sem, zqa, zqb, zqc, zqd, zqe, ↓reduceIte, reduceCtorEq, zqf, zqg, zqh]) <;> clear q') | (refine hN _ ?_ ?_ Wk.kk) | (with_reducible refine And.intro ?_ ?_) | (with_reducible omega) | (exact ok_ints) | (exact cells_ints) | (exact no_mem) | (with_reducible exact plain_ints) | (refine le_maxLen ?_; omega) | (refine List.forall_mem_cons.2 ⟨?_, ?_⟩) | (simp only [go_sem, zqc, zqb, List.mem_cons, List.not_mem_nil, forall_eq]; done)))
      all_goals (first | omega | (rw [ok_agg]; simp [D.atom]; done) | (refine hN0 (e2, kp ++ [(ti, tm, V)]) _ hlt hsu.symm (by refine Wk.auto ?_ ?_ <;> simp [extraK, lk, killL, St.kill, wipeO, wipeS, AV.has, AV.hasL, AO.wipe, List.map_set, updSt, insL, dropS, ins, D.ints, List.map_append, List.map_cons, List.map_nil]); done))
  · obtain rfl : i = ts.length := by omega
    rw [List.take_length] at hs
    rw [← hs] at hE0
    have hE := hE0
    simp (disch := first | omega | decide +kernel) only [D.ints, go_sem, zqa, zqb, zqc, zqd, zqe, ↓reduceIte, reduceCtorEq, zqf, zqg, zqh]
    (repeat' (first | ((first | (refine gsel_split (fun q' => ?_) (fun q' => ?_) <;> (have h' := q') <;> (try simp only [decide_eq_true_eq, decide_eq_false_iff_not, zba, zbb, bne_iff_ne, ne_eq, beq_iff_eq, bne_eq_false_iff_eq, beq_eq_false_iff_ne, zia, zib, zic, zid, zda, zbc, zbd, zbe, gt_iff_lt, ge_iff_le] at h') <;> try (exfalso; omega)) | (have q' := trivial; first | refine hE _ _ ret_ne ?_ | refine hE _ _ exit_ne ?_)) <;> (try simp (disch := first | omega | decide +kernel) only [q', D.ints, go_sem, zqa, zqb, zqc, zqd, zqe, ↓reduceIte, reduceCtorEq, zqf, zqg, zqh]) <;> clear q') | (refine hN _ ?_ ?_ Wk.kk) | (with_reducible refine And.intro ?_ ?_) | (with_reducible omega) | (exact ok_ints) | (exact cells_ints) | (exact no_mem) | (with_reducible exact plain_ints) | (refine le_maxLen ?_; omega) | (refine List.forall_mem_cons.2 ⟨?_, ?_⟩) | (simp only [go_sem, zqc, zqb, List.mem_cons, List.not_mem_nil, forall_eq]; done)))
    all_goals (first | omega | exact ret_rp3 (j0 := 15) (j1 := 900000001) (j2 := 900000002) [7] rfl rfl rfl rfl rfl (by decide))
end
end Abs.Y

namespace Abs.Y
open Go Go.Proofs Abs
open Nat renaming reduceEqDiff → zqa, reduceLT → zqb, reduceAdd → zqc, reduceMul → zqd, reduceSub → zqe, reduceLeDiff → zqf, reduceSubDiff → zqg, reduceBEq → zqh
open Bool renaming not_eq_true' → zba, not_eq_false' → zbb, and_eq_true → zbc, or_eq_true → zbd, or_eq_false_iff → zbe
open Int renaming ofNat_lt → zia, ofNat_le → zib, not_lt → zic, not_le → zid
open Decidable renaming not_not → zda
set_option maxRecDepth 100000

def imgN (V a : List Int) : Nat → Int
  | 0 => 0
  | n + 1 => imgN V a n + a.getD n 0 * V.getD n 0
theorem imgN_bd {p : Int} (hp : 1 < p ∧ p ≤ 5) {n : Nat} {V a : List Int} (ha : Vec p n a) (hV : Vec p n V) : ∀ k, 0 ≤ imgN V a k ∧ imgN V a k ≤ 25 * (k : Nat)
  | 0 => by simp [imgN]
  | k + 1 => by
    have h := imgN_bd hp ha hV k
    have h1 := ha.2 k
    have h2 := hV.2 k
    have h3 : 0 ≤ a.getD k 0 * V.getD k 0 ∧ a.getD k 0 * V.getD k 0 ≤ 25 := ⟨Int.mul_nonneg h1.1 h2.1, Int.le_trans (Int.mul_le_mul (show a.getD k 0 ≤ 5 by omega) (show V.getD k 0 ≤ 5 by omega) h2.1 (by decide)) (by decide)⟩
    simp only [imgN]; omega
theorem imgN_one {V a : List Int} (h : ∀ m, m ≠ 0 → a.getD m 0 * V.getD m 0 = 0) (h0 : V.getD 0 0 = 1) : ∀ k, imgN V a (k + 1) = a.getD 0 0
  | 0 => by
    show imgN V a 0 + a.getD 0 0 * V.getD 0 0 = _
    rw [h0]; simp only [imgN]; omega
  | k + 1 => by
    have := imgN_one h h0 k
    rw [imgN, this, h _ (Nat.succ_ne_zero k), Int.add_zero]
theorem Vec.setV {p : Int} {n : Nat} {V : List Int} (h : Vec p n V) (i : Nat) {x : Int} (hx : 0 ≤ x ∧ x < p) : Vec p n (V.set i x) := by
  refine ⟨by rw [List.length_set]; exact h.1, fun j => ?_⟩
  rw [getD_set]
  split
  · exact hx
  · exact h.2 j
theorem dual_vec {p : Int} (hp : 1 < p) (u : Nat) (R : List (List Int)) : Vec p (2 ^ u) (dualV p u R) := by
  unfold dualV
  have key : ∀ (R : List (List Int)) (V : List Int), Vec p (2 ^ u) V → Vec p (2 ^ u) (R.foldl (fun v r => v.set (ldG r) ((p - r.getD 0 0) % p)) V) := by
    intro R
    induction R with
    | nil => exact fun V h => h
    | cons r R ih => exact fun V h => ih _ (h.setV _ ⟨Int.emod_nonneg _ (by omega), Int.emod_lt_of_pos _ (by omega)⟩)
  exact key R _ (Vec.mono hp u 0)
theorem dual_succ {p : Int} {u : Nat} {R : List (List Int)} {i : Nat} (hi : i < R.length) : dualV p u (R.take (i + 1)) = (dualV p u (R.take i)).set (ldG (R.getD i [])) ((p - (R.getD i []).getD 0 0) % p) := by
  unfold dualV
  rw [take_succ [] R i hi, List.foldl_append]; rfl
theorem dual_img {p : Int} {u : Nat} {R : List (List Int)} (hp : 1 < p) (h : Ech p (2 ^ u) ldG R) (h0 : ∀ r ∈ R, ldG r ≠ 0) {i : Nat} (hi : i < R.length) :
    imgN ((dualV p u (R.take i)).set (ldG (R.getD i [])) 0) (R.getD i []) (2 ^ u) = (R.getD i []).getD 0 0 := by
  have hpos := Nat.two_pow_pos u
  obtain ⟨n, hn⟩ : ∃ n, 2 ^ u = n + 1 := ⟨2 ^ u - 1, by omega⟩
  have hm : R.getD i [] ∈ R := getD_mem hi
  have hl := h0 _ hm
  obtain ⟨d1, d2⟩ := dual_fold p (R.take i) (monoD u 0)
  have hVl : (dualV p u (R.take i)).length = 2 ^ u := d1.trans (mono_len u 0)
  have hnd : ((R.take i).map ldG).Nodup := by rw [List.map_take]; exact h.nodup.sublist (List.take_sublist _ _)
  have hg := mono_get (p := p) hp (u := u) (m := 0) hpos
  rw [hn]
  refine imgN_one (fun m hm0 => ?_) ?_ n
  · rw [getD_set]
    split
    · simp
    · rename_i hc
      by_cases hlt : m < 2 ^ u
      · have hne : ldG (R.getD i []) ≠ m := fun e => hc ⟨e, by rw [hVl]; exact hlt⟩
        obtain ⟨_, d4⟩ := d2 hnd m (by rw [mono_len]; exact hlt)
        by_cases hh : ∃ s ∈ R.take i, ldG s = m
        · obtain ⟨s, hs, rfl⟩ := hh
          rw [h.other hm (List.mem_of_mem_take hs) hne]; simp
        · have : (dualV p u (R.take i)).getD m 0 = 0 := by
            refine (d4 fun s hs e => hh ⟨s, hs, e⟩).trans ?_
            rw [hg, if_neg (Ne.symm hm0)]
          rw [this]; simp
      · have : (R.getD i []).getD m 0 = 0 := by
          by_cases hz : (R.getD i []).getD m 0 = 0
          · exact hz
          · have := lt_of_get hz
            rw [(h.vec _ hm).1] at this; omega
        rw [this]; simp
  · rw [getD_set, if_neg fun h => hl h.1]
    obtain ⟨_, d4⟩ := d2 hnd 0 (by rw [mono_len]; exact hpos)
    refine (d4 fun s hs => h0 s (List.mem_of_mem_take hs)).trans ?_
    rw [hg, if_pos rfl]
section
variable {p : Int} {u : Nat} (hp : 1 < p ∧ p ≤ 5) (hu : u ≤ 6)
include hp hu
theorem image_ok {V a : List Int} (ha : Vec p (2 ^ u) a) (hV : Vec p (2 ^ u) V) : Ctr Tryz.prog 33 [D.ring p u, .ints V, .ints a] false (.d (.int .i64 (imgN V a (2 ^ u) % p))) [] := by
  have h2 := pow_le6 hu
  have hl := ha.1
  have hVl := hV.1
  have hp0 : ¬ p = 0 := by omega
  have hb := imgN_bd hp ha hV
  rw [← hl]
  refine Ctr.of (n := 30) (rs := [.tmp 6]) Tryz.func33 rfl rfl Tryz.ntmps33 rfl rfl (by kernel_rfl) Tryz.checked.mixed ?_
  simp (disch := first | omega | decide +kernel) only [D.ints, D.ring, go_sem, zqa, zqb, zqc, zqd, zqe, ↓reduceIte, reduceCtorEq, zqf, zqg, zqh]
  (repeat' (first | ((first | (refine gsel_split (fun q' => ?_) (fun q' => ?_) <;> (have h' := q') <;> (try simp only [decide_eq_true_eq, decide_eq_false_iff_not, zba, zbb, bne_iff_ne, ne_eq, beq_iff_eq, bne_eq_false_iff_eq, beq_eq_false_iff_ne, zia, zib, zic, zid, zda, zbc, zbd, zbe, gt_iff_lt, ge_iff_le] at h') <;> try (exfalso; omega)) | (have q' := trivial; first | refine hE _ _ ret_ne ?_ | refine hE _ _ exit_ne ?_)) <;> (try simp (disch := first | omega | decide +kernel) only [q', D.ints, D.ring, go_sem, zqa, zqb, zqc, zqd, zqe, ↓reduceIte, reduceCtorEq, zqf, zqg, zqh]) <;> clear q') | (refine hN _ ?_ ?_ Wk.kk) | (with_reducible refine And.intro ?_ ?_) | (with_reducible omega) | (exact ok_ints) | (exact cells_ints) | (exact no_mem) | (with_reducible exact plain_ints) | (refine le_maxLen ?_; omega) | (refine List.forall_mem_cons.2 ⟨?_, ?_⟩) | (simp only [go_sem, zqc, zqb, List.mem_cons, List.not_mem_nil, forall_eq]; done)))
  refine Ok.loopN [25, 24, 23, 22, 21, 20, 19, 18, 17, 16, 15, 14, 13, 12, 9, 8, 7, 5, 4, 2, 0] (fun i s => [(12, .d (.int .i64 (i : Nat))), (7, .d (.int .i64 s))]) (fun _ (_ : Int) => []) a.length (fun i s => s = imgN V a i) 0 rfl (by refine Wk.auto ?_ ?_ <;> simp [extraK, lk, killL, St.kill, wipeO, wipeS, AV.has, AV.hasL, AO.wipe, List.map_set, updSt, insL, dropS, ins, D.ints]) ?_
  rintro R i s hN hE hi hs
  have hsb := hb i
  rw [← hs] at hsb
  by_cases hlt : i < a.length
  · have hs2 : imgN V a (i + 1) = s + a.getD i 0 * V.getD i 0 := by rw [hs]; rfl
    have hai := ha.2 i
    have hvi := hV.2 i
    have hm : 0 ≤ a.getD i 0 * V.getD i 0 ∧ a.getD i 0 * V.getD i 0 ≤ 25 := ⟨Int.mul_nonneg hai.1 hvi.1, Int.le_trans (Int.mul_le_mul (show a.getD i 0 ≤ 5 by omega) (show V.getD i 0 ≤ 5 by omega) hvi.1 (by decide)) (by decide)⟩
    clear hs hb
    simp (disch := first | omega | decide +kernel) only [go_sem, zqa, zqb, zqc, zqd, zqe, ↓reduceIte, reduceCtorEq, zqf, zqg, zqh]
    (repeat' (first | ((first | (refine gsel_split (fun q' => ?_) (fun q' => ?_) <;> (have h' := q') <;> (try simp only [decide_eq_true_eq, decide_eq_false_iff_not, zba, zbb, bne_iff_ne, ne_eq, beq_iff_eq, bne_eq_false_iff_eq, beq_eq_false_iff_ne, zia, zib, zic, zid, zda, zbc, zbd, zbe, gt_iff_lt, ge_iff_le] at h') <;> try (exfalso; omega)) | (have q' := trivial; first | refine hE _ _ ret_ne ?_ | refine hE _ _ exit_ne ?_)) <;> (try simp (disch := first | omega | decide +kernel) only [q', go_sem, zqa, zqb, zqc, zqd, zqe, ↓reduceIte, reduceCtorEq, zqf, zqg, zqh]) <;> clear q') | (refine hN _ ?_ ?_ Wk.kk) | (with_reducible refine And.intro ?_ ?_) | (with_reducible omega) | (exact ok_ints) | (exact cells_ints) | (exact no_mem) | (with_reducible exact plain_ints) | (refine le_maxLen ?_; omega) | (refine List.forall_mem_cons.2 ⟨?_, ?_⟩) | (simp only [go_sem, zqc, zqb, List.mem_cons, List.not_mem_nil, forall_eq]; done)))
    all_goals (first | omega | (refine hN (s + a.getD i 0 * V.getD i 0) _ hlt hs2.symm (by refine Wk.auto ?_ ?_ <;> simp [extraK, lk, killL, St.kill, wipeO, wipeS, AV.has, AV.hasL, AO.wipe, List.map_set, updSt, insL, dropS, ins, D.ints]); done))
  · obtain rfl : i = a.length := by omega
    have em : (imgN V a a.length).tmod p = imgN V a a.length % p := Int.tmod_eq_emod_of_nonneg (by omega)
    subst hs
    clear hb
    simp (disch := first | omega | decide +kernel) only [em, go_sem, zqa, zqb, zqc, zqd, zqe, ↓reduceIte, reduceCtorEq, zqf, zqg, zqh]
    (repeat' (first | ((first | (refine gsel_split (fun q' => ?_) (fun q' => ?_) <;> (have h' := q') <;> (try simp only [decide_eq_true_eq, decide_eq_false_iff_not, zba, zbb, bne_iff_ne, ne_eq, beq_iff_eq, bne_eq_false_iff_eq, beq_eq_false_iff_ne, zia, zib, zic, zid, zda, zbc, zbd, zbe, gt_iff_lt, ge_iff_le] at h') <;> try (exfalso; omega)) | (have q' := trivial; first | refine hE _ _ ret_ne ?_ | refine hE _ _ exit_ne ?_)) <;> (try simp (disch := first | omega | decide +kernel) only [q', em, go_sem, zqa, zqb, zqc, zqd, zqe, ↓reduceIte, reduceCtorEq, zqf, zqg, zqh]) <;> clear q') | (refine hN _ ?_ ?_ Wk.kk) | (with_reducible refine And.intro ?_ ?_) | (with_reducible omega) | (exact ok_ints) | (exact cells_ints) | (exact no_mem) | (with_reducible exact plain_ints) | (refine le_maxLen ?_; omega) | (refine List.forall_mem_cons.2 ⟨?_, ?_⟩) | (simp only [go_sem, zqc, zqb, List.mem_cons, List.not_mem_nil, forall_eq]; done)))
    all_goals (first | omega)
end
def dualP (p : Int) (u : Nat) (cs : List (List Int)) (d : Int) : List Int := dualV p u (indP p u cs d).1.R
section
variable {p : Int} {u : Nat} (hp : p = 2 ∨ p = 3 ∨ p = 5) (hu : u ≤ 6)
include hp hu
set_option maxHeartbeats 16000000 in
theorem implDualT_ok {cs : List (List Int)} (hpo : primeB p u = true ∧ okCnf u cs = true) {d : Int} (hd : 0 ≤ d ∧ d ≤ 6) (hcl : cs.length ≤ 1048576) (hc : ∀ j, (cs.getD j []).length ≤ 1048576) {t : Bool} (ht : t = true ↔ Sp p (2 ^ u) (prodsP p u (gradN (2 ^ u)) cs d) (monoD u 0)) :
    Ctr Tryz.prog 7 [.int .i64 p, .agg [.int .i64 u, .slice (cs.map D.ints)], .int .i64 d] false (.tup [.sl 0, .d (.bool (!t))]) [(0, .arr 3 1 ((if t then [] else dualP p u cs d).map (.int .i64)))] := by
  have h2 := pow_le6 hu
  have hp1 : 1 < p ∧ p ≤ 5 := by omega
  have hp0 : ¬ p = 0 := by omega
  have h0 := Nat.two_pow_pos u
  have h60 := cnf_len hpo.2
  have c1 := algebraOf_ok (p := p) hp1 hu hpo.1 hpo.2 (by omega) (fun j => by have := hc j; omega)
  have c2 := degreeOk_ok d
  have hdb : degB d = true := by simp [degB]; omega
  rw [hdb] at c2
  have c4 := independentB_ok hp hu h60 hd.2
  obtain ⟨g1, g2, g3, g4⟩ := indP_ok hp hu cs d
  have hsp := (g3.trans (prodsP_eq (fun d => gradI_gm hu d) (fun d => gradN_gm u d))) (monoD u 0)
  rw [← hsp] at ht
  have c5 := Ctr.data1 (mono_ok hp1 hu (m := 0) h0)
  have hvv := Vec.mono hp1.1 u 0
  have hP := g1.toP hu
  have c6 := reduceM_ok hp1 hu hP hvv
  have hrq := redQ_vec (p := p) (by omega) (M := (indP p u cs d).1.M) (many := (indP p u cs d).1.many) g1.ech.vec hvv _ (Nat.le_refl _)
  have hz := redQ_zero (p := p) (u := u) (M := (indP p u cs d).1.M) (many := (indP p u cs d).1.many) (by omega) g1.ech hvv ht
  have hech := g1.ech
  have hdp : dualP p u cs d = dualV p u (indP p u cs d).1.R := rfl
  have hlz := lead_zero hp1.1 hu hech
  rw [← ht] at hlz
  have hKr := hP.bd
  have hlen : ∀ x ∈ (indP p u cs d).1.R, x.length ≤ 64 := fun x hx => by rw [(hech.vec x hx).1]; exact h2
  generalize (redQ p (indP p u cs d).1.R (indP p u cs d).1.M (monoD u 0) (indP p u cs d).1.many (indP p u cs d).1.R.length).2 = md at *
  generalize (redQ p (indP p u cs d).1.R (indP p u cs d).1.M (monoD u 0) (indP p u cs d).1.many (indP p u cs d).1.R.length).1 = rest at *
  generalize (indP p u cs d).1.R = R at *
  generalize (indP p u cs d).1.M = M at *
  generalize (indP p u cs d).1.many = many at *
  generalize (indP p u cs d).2 = K at *
  obtain ⟨hrv, hmv⟩ := hrq
  have hrl := hrv.1
  have c7 := isZero_ok (v := rest) (by omega)
  rw [hz] at c7
  clear ht hsp g1 g3 g4 hvv hP hz hrv
  cases t with
  | true =>
    simp only [if_true]
    generalize monoD u 0 = one at *
    refine Ctr.of (n := 90) (rs := [.tmp 6, .tmp 7]) Tryz.func7 rfl rfl Tryz.ntmps7 rfl rfl (by kernel_rfl) Tryz.checked.mixed ?_
    simp (disch := first | omega | decide +kernel) only [D.ints, D.alg, echO, go_sem, zqa, zqb, zqc, zqd, zqe, ↓reduceIte, reduceCtorEq, zqf, zqg, zqh]
    (repeat' (first | ((first | (refine gsel_split (fun q' => ?_) (fun q' => ?_) <;> (have h' := q') <;> (try simp only [decide_eq_true_eq, decide_eq_false_iff_not, zba, zbb, bne_iff_ne, ne_eq, beq_iff_eq, bne_eq_false_iff_eq, beq_eq_false_iff_ne, zia, zib, zic, zid, zda, zbc, zbd, zbe, gt_iff_lt, ge_iff_le] at h') <;> try (exfalso; omega)) | (have q' := trivial; first | refine callX_shared (c1) rfl (by decide) ?_ | refine callY_shared (c1) rfl ?_ | refine callX_new (c2) rfl (by decide) ?_ | refine callY_new (c2) rfl ?_ | refine callX_shared (c4) rfl (by decide) ?_ | refine callY_shared (c4) rfl ?_ | refine callX_shared (c5) rfl (by decide) ?_ | refine callY_shared (c5) rfl ?_ | refine callX_mut [3500000, 3500001, 3500002] [3500000, 3500001, 3500002, 44] [44] (c6) ⟨.inl rfl, .inl rfl, trivial⟩ ⟨rfl, rfl, rfl, trivial⟩ rfl (by simp [dstB]) ?_ | refine callX_new (c7) rfl (by decide) ?_ | refine callY_new (c7) rfl ?_ | refine hE _ _ ret_ne ?_ | refine hE _ _ exit_ne ?_)) <;> (try simp (disch := first | omega | decide +kernel) only [q', D.ints, D.alg, echO, go_sem, zqa, zqb, zqc, zqd, zqe, ↓reduceIte, reduceCtorEq, zqf, zqg, zqh]) <;> clear q') | (refine hN _ ?_ ?_ Wk.kk) | (with_reducible refine And.intro ?_ ?_) | (with_reducible omega) | (exact ok_ints) | (exact cells_ints) | (exact no_mem) | (with_reducible exact plain_ints) | (refine le_maxLen ?_; omega) | (refine List.forall_mem_cons.2 ⟨?_, ?_⟩) | (simp only [go_sem, zqc, zqb, List.mem_cons, List.not_mem_nil, forall_eq]; done)))
    all_goals (first | omega | (first | exact ret_sld _ rfl rfl rfl plain_ints rfl | exact ret_sld _ rfl rfl rfl no_mem rfl))
  | false =>
    simp only [Bool.false_eq_true, if_false, hdp]
    have hR0 : ∀ r ∈ R, ldG r ≠ 0 := fun r hr e => by
      have := hlz.1 ⟨r, hr, e⟩; cases this
    have e : IntKind.wrap .i64 (1 * 2 ^ min u 64) = ((2 ^ u : Nat) : Int) := shl_one (by omega)
    have hsp := sortV_perm hlen (Lib.bitLen R.length)
    have hse := hech.perm hsp.symm
    have hsd : dualV p u (sortV R (Lib.bitLen R.length)) = dualV p u R := dual_eq hp1.1 hu hse hech (SpEq.perm (by omega) hse.vec hsp)
    rw [← hsd]
    have hsl := hsp.length_eq
    have hs0 : ∀ r ∈ sortV R (Lib.bitLen R.length), ldG r ≠ 0 := fun r hr => hR0 r (hsp.mem_iff.1 hr)
    have c8 := sortRows_ok R (by omega) hlen
    generalize sortV R (Lib.bitLen R.length) = S at *
    have er : List.replicate (2 ^ u) (D.int .i64 0) = (List.replicate (2 ^ u) (0 : Int)).map (D.int .i64) := by simp
    have he0 : el (List.map (D.int .i64) (List.replicate (2 ^ u) 0)) 0 = .int .i64 0 := by rw [el_ints (by simp; omega), getD_rep]
    have hmono : ((List.replicate (2 ^ u) (0 : Int)).map (D.int .i64)).set 0 (D.int .i64 1) = (monoD u 0).map (D.int .i64) := by unfold monoD; rw [List.map_set]
    have hdz : monoD u 0 = dualV p u (S.take 0) := rfl
    have hml := mono_len u 0
    clear hsd hsp hR0 hlz hech hlen hdp
    generalize hone : monoD u 0 = one at *
    refine Ctr.of (n := 90) (rs := [.tmp 6, .tmp 7]) Tryz.func7 rfl rfl Tryz.ntmps7 rfl rfl (by kernel_rfl) Tryz.checked.mixed ?_
    simp (disch := first | omega | decide +kernel) only [D.ints, D.alg, echO, e, er, he0, hmono, go_sem, zqa, zqb, zqc, zqd, zqe, ↓reduceIte, reduceCtorEq, zqf, zqg, zqh]
    (repeat' (first | ((first | (refine gsel_split (fun q' => ?_) (fun q' => ?_) <;> (have h' := q') <;> (try simp only [decide_eq_true_eq, decide_eq_false_iff_not, zba, zbb, bne_iff_ne, ne_eq, beq_iff_eq, bne_eq_false_iff_eq, beq_eq_false_iff_ne, zia, zib, zic, zid, zda, zbc, zbd, zbe, gt_iff_lt, ge_iff_le] at h') <;> try (exfalso; omega)) | (have q' := trivial; first | refine callX_shared (c1) rfl (by decide) ?_ | refine callY_shared (c1) rfl ?_ | refine callX_new (c2) rfl (by decide) ?_ | refine callY_new (c2) rfl ?_ | refine callX_shared (c4) rfl (by decide) ?_ | refine callY_shared (c4) rfl ?_ | refine callX_shared (c5) rfl (by decide) ?_ | refine callY_shared (c5) rfl ?_ | refine callX_mut [3500000, 3500001, 3500002] [3500000, 3500001, 3500002, 44] [44] (c6) ⟨.inl rfl, .inl rfl, trivial⟩ ⟨rfl, rfl, rfl, trivial⟩ rfl (by simp [dstB]) ?_ | refine callX_new (c7) rfl (by decide) ?_ | refine callY_new (c7) rfl ?_ | refine callX_mut [3500001] [3500001] [] (c8) ⟨.inl rfl, .inl rfl, trivial⟩ ⟨rfl, trivial⟩ rfl (by simp [dstB]) ?_ | refine hE _ _ ret_ne ?_ | refine hE _ _ exit_ne ?_)) <;> (try simp (disch := first | omega | decide +kernel) only [q', D.ints, D.alg, echO, e, er, he0, hmono, go_sem, zqa, zqb, zqc, zqd, zqe, ↓reduceIte, reduceCtorEq, zqf, zqg, zqh]) <;> clear q') | (refine hN _ ?_ ?_ Wk.kk) | (with_reducible refine And.intro ?_ ?_) | (with_reducible omega) | (exact ok_ints) | (exact cells_ints) | (exact no_mem) | (with_reducible exact plain_ints) | (refine le_maxLen ?_; omega) | (refine List.forall_mem_cons.2 ⟨?_, ?_⟩) | (simp only [go_sem, zqc, zqb, List.mem_cons, List.not_mem_nil, forall_eq]; done)))
    all_goals (first | omega | skip)
    refine Ok.loopN [88, 87, 86, 85, 84, 83, 82, 81, 80, 79, 78, 77, 76, 75, 74, 73, 72, 71, 70, 69, 68, 67, 66, 65, 17, 16] (fun i (_ : List Int) => [(65, .d (.int .i64 (i : Nat)))]) (fun _ (V : List Int) => [(52, .arr 3 1 (V.map (.int .i64)))]) S.length
      (fun i V => V = dualV p u (S.take i)) one hdz (by refine Wk.auto ?_ ?_ <;> simp [extraK, lk, killL, St.kill, wipeO, wipeS, AV.has, AV.hasL, AO.wipe, List.map_set, updSt, insL, dropS, ins, D.ints]) ?_
    rintro R0 i V hN hE hi hV
    have hVv := dual_vec hp1.1 u (S.take i)
    rw [← hV] at hVv
    have hVl := hVv.1
    by_cases hlt : i < S.length
    · have hei := el_intss (xs := S) hlt
      have hm : S.getD i [] ∈ S := getD_mem hlt
      have hsv := hse.vec _ hm
      have hsu := dual_succ (p := p) (u := u) hlt
      have him := dual_img hp1.1 hse hs0 hlt
      rw [← hV] at hsu him
      have c9 := leading_ok (v := S.getD i []) (by rw [hsv.1]; exact h2)
      obtain ⟨l1, l2, _⟩ := (ldI_or (S.getD i [])).resolve_left fun h => hse.nz hm (by rw [h.1]; decide)
      rw [l1] at c9
      rw [hsv.1] at l2
      have c10 := image_ok hp1 hu (V := V.set (ldG (S.getD i [])) 0) hsv (hVv.setV _ ⟨by omega, by omega⟩)
      rw [him] at c10
      have hr0 := hsv.2 0
      rw [Int.emod_eq_of_lt hr0.1 hr0.2] at c10
      have em : (p - (S.getD i []).getD 0 0).tmod p = (p - (S.getD i []).getD 0 0) % p := Int.tmod_eq_emod_of_nonneg (by omega)
      have hset : (V.map (D.int .i64)).set (ldG (S.getD i [])) (.int .i64 0) = (V.set (ldG (S.getD i [])) 0).map (D.int .i64) := by rw [List.map_set]
      have hset2 : ((V.set (ldG (S.getD i [])) 0).map (D.int .i64)).set (ldG (S.getD i [])) (.int .i64 ((p - (S.getD i []).getD 0 0) % p)) = (V.set (ldG (S.getD i [])) ((p - (S.getD i []).getD 0 0) % p)).map (D.int .i64) := by
        rw [← List.map_set, List.set_set]
      have hVl2 : (V.set (ldG (S.getD i [])) 0).length = 2 ^ u := by rw [List.length_set]; exact hVl
      clear him hV hse hs0
      generalize (p - (S.getD i []).getD 0 0) % p = x at *
      generalize V.set (ldG (S.getD i [])) x = V2 at *
      generalize V.set (ldG (S.getD i [])) 0 = V1 at *
      generalize ldG (S.getD i []) = l at *
      simp (disch := first | omega | decide +kernel) only [D.ints, D.alg, D.ring, hei, go_sem, zqa, zqb, zqc, zqd, zqe, ↓reduceIte, reduceCtorEq, zqf, zqg, zqh]
      (repeat' (first | ((first | (refine gsel_split (fun q' => ?_) (fun q' => ?_) <;> (have h' := q') <;> (try simp only [decide_eq_true_eq, decide_eq_false_iff_not, zba, zbb, bne_iff_ne, ne_eq, beq_iff_eq, bne_eq_false_iff_eq, beq_eq_false_iff_ne, zia, zib, zic, zid, zda, zbc, zbd, zbe, gt_iff_lt, ge_iff_le] at h') <;> try (exfalso; omega)) | (have q' := trivial; first | refine callX_new (c9) rfl (by decide) ?_ | refine callY_new (c9) rfl ?_ | refine callX_new (c10) rfl (by decide) ?_ | refine callY_new (c10) rfl ?_ | refine hE _ _ ret_ne ?_ | refine hE _ _ exit_ne ?_)) <;> (try simp (disch := first | omega | decide +kernel) only [q', D.ints, D.alg, D.ring, hei, em, hset, hset2, Int.toNat_natCast, go_sem, zqa, zqb, zqc, zqd, zqe, ↓reduceIte, reduceCtorEq, zqf, zqg, zqh]) <;> clear q') | (refine hN _ ?_ ?_ Wk.kk) | (with_reducible refine And.intro ?_ ?_) | (with_reducible omega) | (exact ok_ints) | (exact cells_ints) | (exact no_mem) | (with_reducible exact plain_ints) | (refine le_maxLen ?_; omega) | (refine List.forall_mem_cons.2 ⟨?_, ?_⟩) | (simp only [go_sem, zqc, zqb, List.mem_cons, List.not_mem_nil, forall_eq]; done)))
      all_goals (first | omega | (refine hN V2 _ hlt hsu.symm (by refine Wk.auto ?_ ?_ <;> simp [extraK, lk, killL, St.kill, wipeO, wipeS, AV.has, AV.hasL, AO.wipe, List.map_set, updSt, insL, dropS, ins, D.ints]); done))
    · obtain rfl : i = S.length := by omega
      rw [List.take_length] at hV
      rw [← hV] at hE
      clear hN
      simp (disch := first | omega | decide +kernel) only [D.ints, go_sem, zqa, zqb, zqc, zqd, zqe, ↓reduceIte, reduceCtorEq, zqf, zqg, zqh]
      (repeat' (first | ((first | (refine gsel_split (fun q' => ?_) (fun q' => ?_) <;> (have h' := q') <;> (try simp only [decide_eq_true_eq, decide_eq_false_iff_not, zba, zbb, bne_iff_ne, ne_eq, beq_iff_eq, bne_eq_false_iff_eq, beq_eq_false_iff_ne, zia, zib, zic, zid, zda, zbc, zbd, zbe, gt_iff_lt, ge_iff_le] at h') <;> try (exfalso; omega)) | (have q' := trivial; first | refine hE _ _ ret_ne ?_ | refine hE _ _ exit_ne ?_)) <;> (try simp (disch := first | omega | decide +kernel) only [q', D.ints, go_sem, zqa, zqb, zqc, zqd, zqe, ↓reduceIte, reduceCtorEq, zqf, zqg, zqh]) <;> clear q') | (refine hN _ ?_ ?_ Wk.kk) | (with_reducible refine And.intro ?_ ?_) | (with_reducible omega) | (exact ok_ints) | (exact cells_ints) | (exact no_mem) | (with_reducible exact plain_ints) | (refine le_maxLen ?_; omega) | (refine List.forall_mem_cons.2 ⟨?_, ?_⟩) | (simp only [go_sem, zqc, zqb, List.mem_cons, List.not_mem_nil, forall_eq]; done)))
      all_goals (first | omega | (first | exact ret_sld _ rfl rfl rfl plain_ints rfl | exact ret_sld _ rfl rfl rfl no_mem rfl))
end
end Abs.Y

namespace Abs.Y
open Go Go.Proofs Abs
open Nat renaming reduceEqDiff → zqa, reduceLT → zqb, reduceAdd → zqc, reduceMul → zqd, reduceSub → zqe, reduceLeDiff → zqf, reduceSubDiff → zqg, reduceBEq → zqh
open Bool renaming not_eq_true' → zba, not_eq_false' → zbb, and_eq_true → zbc, or_eq_true → zbd, or_eq_false_iff → zbe
open Int renaming ofNat_lt → zia, ofNat_le → zib, not_lt → zic, not_le → zid
open Decidable renaming not_not → zda
set_option maxRecDepth 100000

def e0S : List (Nat × AV) → List (Nat × AV)
  | [] => []
  | (k, v) :: r => (k, match v with | .e0 => .d (.slice []) | v => v) :: e0S r
theorem lk_e0S {i : Nat} {v : AV} : ∀ {l : List (Nat × AV)}, lk i (e0S l) = some v → ∃ u, lk i l = some u ∧ v = (match u with | .e0 => .d (.slice []) | v => v)
  | [], h => by simp [e0S, lk] at h
  | (k, u) :: r, h => by
    simp only [e0S, lk] at h ⊢
    split at h
    · rename_i hk
      rw [if_pos hk]
      exact ⟨u, rfl, (Option.some.inj h).symm⟩
    · rename_i hk
      rw [if_neg hk]
      exact lk_e0S h
theorem Wk.e0 {N : Nat} {st : St} : Wk N st ⟨e0S st.s, st.o⟩ := fun Z β φ B M w0 a w h => by
  refine ⟨β, φ, h.nd, h.size, fun i av hi => ?_, h.objs, h.own, h.disj, h.fr, h.z⟩
  obtain ⟨u, hu, rfl⟩ := lk_e0S hi
  have := h.slots i u hu
  revert this
  generalize a.tmps.getD i Go.undef = tv
  intro this
  cases this with
  | e0n => exact .d (.nil _)
  | e0s a => exact .d (.nil _)
  | undef _ => exact .undef _
  | d h => exact .d h
  | sl j => exact .sl j
  | p h => exact .p h
  | pe h => exact .pe h
  | tup hl hr => exact .tup hl hr
  | fn hl hr => exact .fn hl hr
  | hdr h => exact .hdr h
  | nilS => exact .nilS
  | st hl hr => exact .st hl hr
theorem ok_dns {r : List (List Int)} : ∀ y ∈ List.map D.ints r, D.ok 1 y := fun y hy => by
  obtain ⟨c, _, rfl⟩ := List.mem_map.1 hy
  show D.ok 1 (.slice _)
  exact ⟨rfl, by simp [D.cells, D.atom]⟩
theorem cells_dns {r : List (List Int)} : ∀ y ∈ List.map D.ints r, y.cells.length = 1 := fun x hx => by
  obtain ⟨c, _, rfl⟩ := List.mem_map.1 hx; rfl
def mapK {α : Type} (f : α → α) (l : List α) (i : Nat) : List α := (l.take i).map f ++ l.drop i
theorem mapK_len {α : Type} (f : α → α) (l : List α) (i : Nat) : (mapK f l i).length = l.length := by
  unfold mapK; simp; omega
theorem mapK_zero {α : Type} (f : α → α) (l : List α) : mapK f l 0 = l := by simp [mapK]
theorem mapK_all {α : Type} (f : α → α) (l : List α) : mapK f l l.length = l.map f := by simp [mapK]
theorem mapK_at {α : Type} (z : α) (f : α → α) (l : List α) {i : Nat} (h : i < l.length) : (mapK f l i).getD i z = l.getD i z := by
  unfold mapK
  rw [List.getD_eq_getElem?_getD, List.getElem?_append_right (by simp; omega), List.getElem?_drop, List.getD_eq_getElem?_getD]
  congr 2; simp; omega
theorem mapK_set {α : Type} (z : α) (f : α → α) (l : List α) {i : Nat} (h : i < l.length) : (mapK f l i).set i (f (l.getD i z)) = mapK f l (i + 1) := by
  unfold mapK
  rw [List.set_append_right _ _ (by simp; omega), take_succ z l i h, List.map_append, drop_cons z l i h]
  have : i - (List.map f (List.take i l)).length = 0 := by simp; omega
  rw [this]; simp
theorem idx_yes {f : Nat → Bool} {n : Nat} (h : f n = true) (hn : idxR f n < 0) : idxR f (n + 1) = n := by
  rw [idxR_succ, if_neg (by omega), if_pos h]
theorem idx_has {f : Nat → Bool} {n : Nat} (hn : ¬ idxR f n < 0) : idxR f (n + 1) = idxR f n := by
  rw [idxR_succ, if_pos (by omega)]
theorem idx_no {f : Nat → Bool} {n : Nat} (h : f n = false) : idxR f (n + 1) = idxR f n := by
  rw [idxR_succ, h]
  rcases idxR_bd f n with h1 | ⟨k, h1, _⟩ <;> rw [h1]
  · rfl
  · rw [if_pos (by omega)]
theorem cnt_u {u m : Nat} (hu : u ≤ 6) (hm : m < 2 ^ u) : cnt m ≤ u := by
  rw [cnt_bits u (by omega) m hm]
  have := List.length_filter_le (fun k => m.testBit k) (List.range u)
  simpa using this
theorem gradN_mem {u m : Nat} (hu : u ≤ 6) : m ∈ gradN (2 ^ u) u ↔ m < 2 ^ u := by
  rw [gradN_gm u u m]
  exact ⟨fun h => h.1, fun h => ⟨h, by have := cnt_u hu h; omega⟩⟩
section
variable {p : Int} {u : Nat} (hp : p = 2 ∨ p = 3 ∨ p = 5) (hu : u ≤ 6)
include hp hu
theorem Elim.step_ld {S0 S1 S2 T : List (List Int)} {done done' : Nat → Prop} {m : Nat} {s : List Int} (h : Elim p u S0 done (S1 ++ s :: S2) T) (hs : s.getD m 0 ≠ 0) (hd : ∀ i, done' i ↔ done i ∨ i = m) (hbig : ∀ i, i < 2 ^ u → kG m < kG i → done i) (hnd : ¬ done m) :
    ∀ r ∈ T, ldG (clr p m (timesV p s (invN p (s.getD m 0))) r) = ldG r := by
  have h64 := pow_le6 hu
  have hp1 : 1 < p := by omega
  have hsv := h.vs s (by simp)
  have hsl := hsv.1
  have hlt := lt_of_get hs
  rw [hsv.1] at hlt
  have hsm := hsv.2 m
  obtain ⟨i1, i2, i3, _⟩ := invN_ok hp (c := s.getD m 0) ⟨by omega, hsm.2⟩
  have htop : ∀ i, s.getD i 0 ≠ 0 → kG i ≤ kG m := fun i hi => by
    by_cases hk : kG m < kG i
    · exact absurd (h.zero s (by simp) i (hbig i (by have := lt_of_get hi; rw [hsv.1] at this; exact this) hk)) hi
    · omega
  have hld : ldG s = m := (lds_G h64).eq hsv.1 hs htop
  rw [timesV_eq hsv.1]
  have hT0 : ∀ r ∈ T, s.getD (ldG r) 0 = 0 := fun r hr => h.zero s (by simp) _ (h.ld r hr)
  have hadd := h.ech.add (n := 2 ^ u) hp1 (lds_G h64) hsv hT0 (k := invN p (s.getD m 0)) (by rw [hld]; exact hs) (by rw [hld, Int.mul_comm]; exact i3)
  simp only [hld] at hadd
  obtain ⟨a1, a2, a3, a4⟩ := hadd
  have hg : ∀ i, (addD p (invN p (s.getD m 0)) (List.replicate (2 ^ u) 0) s).getD i 0 = (invN p (s.getD m 0) : Int) * s.getD i 0 % p := fun i => by
    rw [addD_get (by simp; omega), getD_rep, Int.zero_add]
  exact a3
end
theorem Elim.fin {p : Int} {u : Nat} {S0 S T : List (List Int)} {done : Nat → Prop} (hp : 1 < p) (h : Elim p u S0 done S T) (hd : ∀ m, m < 2 ^ u → done m) : SpEq p (2 ^ u) T S0 := by
  have hz : ∀ s ∈ S, ∀ i, s.getD i 0 = 0 := fun s hs i => by
    by_cases hi : i < 2 ^ u
    · exact h.zero s hs i (hd i hi)
    · by_cases hz : s.getD i 0 = 0
      · exact hz
      · have := lt_of_get hz
        rw [(h.vs s hs).1] at this; omega
  refine SpEq.trans (R' := T ++ S) (fun v => ⟨Sp.mono fun x hx => List.mem_append.2 (.inl hx), Sp.trans (by omega) h.ech.vec fun x hx => ?_⟩) h.sp
  rcases List.mem_append.1 hx with h1 | h1
  · exact Sp.self (by omega) h.ech.vec h1
  · have : x = List.replicate (2 ^ u) 0 := vec_ext (p := p) (h.vs x h1).1 (by simp) fun i => by rw [hz x h1 i, getD_rep]
    rw [this]; exact .zero
end Abs.Y
