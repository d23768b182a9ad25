/- What functions of this program compute, as contracts over plain data, with what the proofs need of them. No condition. -/
import Derived.Test.YtfaamimlkogcpaaGreatH18
set_option linter.all false
namespace Abs.Y
open Go Go.Proofs Abs
open Nat renaming reduceEqDiff → zqa, reduceLT → zqb, reduceAdd → zqc, reduceMul → zqd, reduceSub → zqe, reduceLeDiff → zqf, reduceSubDiff → zqg, reduceBEq → zqh
open Bool renaming not_eq_true' → zba, not_eq_false' → zbb, and_eq_true → zbc, or_eq_true → zbd, or_eq_false_iff → zbe
open Int renaming ofNat_lt → zia, ofNat_le → zib, not_lt → zic, not_le → zid
open Decidable renaming not_not → zda
set_option maxRecDepth 100000

section
variable {p : Int} {u : Nat} (hp : p = 2 ∨ p = 3 ∨ p = 5) (hu : u ≤ 6)
include hp hu
set_option maxHeartbeats 16000000 in
theorem specDualT_ok {cs : List (List Int)} (hpo : primeB p u = true ∧ okCnf u cs = true) {d : Int} (hd : 0 ≤ d ∧ d ≤ 6) (hcl : cs.length ≤ 1048576) (hc : ∀ j, (cs.getD j []).length ≤ 1048576) {t : Bool} (ht : t = true ↔ Sp p (2 ^ u) (prodsP p u (gradN (2 ^ u)) cs d) (monoD u 0)) :
    Ctr Tryz.prog 5 [.int .i64 p, .agg [.int .i64 u, .slice (cs.map D.ints)], .int .i64 d] false (.tup [.sl 0, .d (.bool (!t))]) [(0, .arr 3 1 ((if t then [] else dualP p u cs d).map (.int .i64)))] := by
  have h2 := pow_le6 hu
  have hp1 : 1 < p ∧ p ≤ 5 := by omega
  have hp0 : ¬ p = 0 := by omega
  have c1 := l19Takes_ok p u cs (by omega) (fun j => by have := hc j; omega)
  rw [hpo.1, hpo.2, Bool.and_true] at c1
  have c2 := l19Degree_ok d
  have hdb : degB d = true := by simp [degB]; omega
  rw [hdb] at c2
  have c3 := l18Graded_ok hu (d := (u : Int)) (by omega)
  have c4 := l19Span_ok hp hu hpo.2 hcl hc hd.2
  obtain ⟨g1, g2, g3⟩ := spanP_ok hp (u := u) cs d
  have hGm : ∀ m, m ∈ gradN (2 ^ u) u ↔ m < 2 ^ u := fun m => gradN_mem hu
  have hGp := gradN_pw (2 ^ u) u h2
  have hGl := gradN_len (2 ^ u) u h2 (by omega)
  have hS0 := g1.bd hu
  have hE0 := Elim.start (p := p) (u := u) g1.vec
  obtain ⟨i1, _, i3, _⟩ := indP_ok hp hu cs d
  have hfin : ∀ T, Ech p (2 ^ u) ldG T → SpEq p (2 ^ u) T (spanP p u cs d).1.R → dualV p u T = dualP p u cs d ∧ ((∃ r ∈ T, ldG r = 0) ↔ t = true) := fun T hT hs => by
    refine ⟨dual_eq hp1.1 hu hT i1.ech (hs.trans (g3.trans ((prodsP_eq (fun d => gradN_gm u d) (fun d => gradI_gm hu d)).trans fun v => (i3 v).symm))), ?_⟩
    rw [lead_zero hp1.1 hu hT, ht]
    exact (hs.trans g3) _
  generalize dualP p u cs d = W at *
  generalize (spanP p u cs d).1.R = S0 at *
  generalize (spanP p u cs d).1.M = M0 at *
  generalize (spanP p u cs d).2 = K0 at *
  clear g1 g2 g3 i1 i3 ht
  generalize gradN (2 ^ u) u = G at *
  have hGlt : ∀ q, q < G.length → G.getD q 0 < 2 ^ u := fun q hq => (hGm _).1 (getD_mem hq)
  have c5 := l19Unit_ok (p := p) hp1 hu
  refine Ctr.of (n := 196) (rs := [.tmp 6, .tmp 7]) Tryz.func5 rfl rfl Tryz.ntmps5 rfl rfl (by kernel_rfl) Tryz.checked.mixed ?_
  simp (disch := first | omega | decide +kernel) only [D.ints, go_sem, zqa, zqb, zqc, zqd, zqe, ↓reduceIte, reduceCtorEq, zqf, zqg, zqh]
  (repeat' (first | ((first | (refine gsel_split (fun q' => ?_) (fun q' => ?_) <;> (have h' := q') <;> (try simp only [decide_eq_true_eq, decide_eq_false_iff_not, zba, zbb, bne_iff_ne, ne_eq, beq_iff_eq, bne_eq_false_iff_eq, beq_eq_false_iff_ne, zia, zib, zic, zid, zda, zbc, zbd, zbe, gt_iff_lt, ge_iff_le] at h') <;> try (exfalso; omega)) | (have q' := trivial; first | refine callX_new (c1) rfl (by decide) ?_ | refine callY_new (c1) rfl ?_ | refine callX_new (c2) rfl (by decide) ?_ | refine callY_new (c2) rfl ?_ | refine callX_shared (c3) rfl (by decide) ?_ | refine callY_shared (c3) rfl ?_ | refine callX_shared (c4) rfl (by decide) ?_ | refine callY_shared (c4) rfl ?_ | refine hE _ _ ret_ne ?_ | refine hE _ _ exit_ne ?_)) <;> (try simp (disch := first | omega | decide +kernel) only [q', D.ints, go_sem, zqa, zqb, zqc, zqd, zqe, ↓reduceIte, reduceCtorEq, zqf, zqg, zqh]) <;> clear q') | (refine hN _ ?_ ?_ Wk.kk) | (with_reducible refine And.intro ?_ ?_) | (with_reducible omega) | (exact ok_ints) | (exact cells_ints) | (exact no_mem) | (with_reducible exact plain_ints) | (refine le_maxLen ?_; omega) | (refine List.forall_mem_cons.2 ⟨?_, ?_⟩) | (simp only [go_sem, zqc, zqb, List.mem_cons, List.not_mem_nil, forall_eq]; done)))
  all_goals (first | omega | skip)
  refine Ok.loopN [195, 194, 193, 192, 191, 190, 189, 188, 187, 186, 185, 184, 183, 182, 181, 180, 179, 178, 177, 176, 175, 174, 173, 172, 171, 170, 169, 168, 167, 166, 165, 164, 163, 162, 161, 160, 159, 158, 157, 156, 155, 154, 153, 152, 151, 150, 149, 148, 147, 146, 145, 144, 143, 142, 141, 140, 139, 138, 137, 136, 135, 134, 133, 132, 131, 130, 129, 128, 127, 126, 125, 124, 123, 122, 121, 120, 119, 118, 117, 116, 115, 114, 113, 112, 111, 110, 109, 108, 107, 106, 105, 104, 103, 102, 101, 100, 99, 98, 97, 96, 95, 94, 93, 92, 91, 90, 89, 88, 87, 86, 85, 84, 83, 82, 81, 80, 79, 78, 77, 76, 75, 74, 73, 72, 71, 70, 69, 68, 67, 66, 65, 64, 63, 62, 61, 60, 59, 58, 57, 56, 55, 54, 53, 52, 51, 50, 49, 48, 47, 46, 45, 44, 43, 42, 41, 40, 39, 38, 37, 36, 35, 34, 33, 32, 31, 30, 29, 28, 27, 26, 25, 24, 23, 22, 21, 20, 19, 18, 17, 16, 15, 14, 13, 12, 11, 10, 9, 7, 6, 5, 3, 2, 1] (fun i (x : List (List Int) × List (List Int) × List Nat) => [(12, .d (.int .i64 ((G.length : Int) - 1 - (i : Nat)))), (11, .sl 41), (10, .sl 40), (9, .d (.slice (x.1.map D.ints)))])
    (fun _ (x : List (List Int) × List (List Int) × List Nat) => [(41, .arr 3 1 (x.2.2.map fun m => .int .i64 (m : Nat))), (40, .arr 26 1 (x.2.1.map D.ints))]) G.length
    (fun i x => Elim p u S0 (fun m => m ∈ G.drop (G.length - i)) x.1 x.2.1 ∧ x.2.2 = x.2.1.map ldG ∧ x.1.length ≤ 64) (S0, [], []) ⟨by simpa using hE0, rfl, hS0⟩ (by refine Wk.auto ?_ ?_ <;> simp [extraK, lk, killL, St.kill, wipeO, wipeS, AV.has, AV.hasL, AO.wipe, List.map_set, updSt, insL, dropS, ins, D.ints, D.nats, List.map_nil]) ?_
  rintro R0 i ⟨S, T, Ls⟩ hN0 hE0 hi ⟨hEl, hLs, hSl⟩
  simp only at hEl hLs hSl
  have hTl := ech_bd h2 hEl.ech
  by_cases hlt : i < G.length
  · obtain ⟨q, hq⟩ : ∃ q, q = G.length - 1 - i := ⟨_, rfl⟩
    have hqi : (G.length : Int) - 1 - (i : Nat) = (q : Nat) := by omega
    have hql : q < G.length := by omega
    rw [show G.length - i = q + 1 by omega] at hEl
    have hm := hGlt q hql
    have heg := el_nats (xs := G) hql
    have hbig : ∀ j, j < 2 ^ u → kG (G.getD q 0) < kG j → j ∈ G.drop (q + 1) := fun j hj hk => by
      obtain ⟨n, hn, rfl⟩ := mem_getD 0 ((hGm j).2 hj)
      have : q < n := by
        rcases Nat.lt_trichotomy q n with h | h | h
        · exact h
        · subst h; omega
        · have := pw_at hGp h hql; omega
      rw [List.mem_iff_getElem?]
      exact ⟨n - (q + 1), by rw [List.getElem?_drop, show q + 1 + (n - (q + 1)) = n by omega, List.getD_eq_getElem?_getD, List.getElem?_eq_getElem hn]; rfl⟩
    have hnd : ¬ G.getD q 0 ∈ G.drop (q + 1) := fun h => by
      obtain ⟨n, hn, e⟩ := mem_getD 0 h
      rw [List.length_drop] at hn
      have h3 := pw_at hGp (show q < q + 1 + n by omega) (by omega)
      have : (G.drop (q + 1)).getD n 0 = G.getD (q + 1 + n) 0 := by simp [List.getD_eq_getElem?_getD]
      rw [← e, this] at h3; omega
    have hdm := drop_mem hql
    have hn2 : ∀ x : List (List Int) × List (List Int) × List Nat, Elim p u S0 (fun m => m ∈ G.drop q) x.1 x.2.1 ∧ x.2.2 = x.2.1.map ldG ∧ x.1.length ≤ 64 → Elim p u S0 (fun m => m ∈ G.drop (G.length - (i + 1))) x.1 x.2.1 ∧ x.2.2 = x.2.1.map ldG ∧ x.1.length ≤ 64 := fun x h => by rw [show G.length - (i + 1) = q by omega]; exact h
    have hnx : (G.length : Int) - 1 - ((i + 1 : Nat) : Int) = (q : Int) - 1 := by omega
    generalize hmm : G.getD q 0 = m at *
    have hE := hE0
    simp (disch := first | omega | decide +kernel) only [D.ints, D.nats, hqi, go_sem, zqa, zqb, zqc, zqd, zqe, ↓reduceIte, reduceCtorEq, zqf, zqg, zqh]
    (repeat' (first | ((first | (refine gsel_split (fun q' => ?_) (fun q' => ?_) <;> (have h' := q') <;> (try simp only [decide_eq_true_eq, decide_eq_false_iff_not, zba, zbb, bne_iff_ne, ne_eq, beq_iff_eq, bne_eq_false_iff_eq, beq_eq_false_iff_ne, zia, zib, zic, zid, zda, zbc, zbd, zbe, gt_iff_lt, ge_iff_le] at h') <;> try (exfalso; omega)) | (have q' := trivial; first | refine hE _ _ ret_ne ?_ | refine hE _ _ exit_ne ?_)) <;> (try simp (disch := first | omega | decide +kernel) only [q', D.ints, D.nats, hqi, go_sem, zqa, zqb, zqc, zqd, zqe, ↓reduceIte, reduceCtorEq, zqf, zqg, zqh]) <;> clear q') | (refine hN _ ?_ ?_ Wk.kk) | (with_reducible refine And.intro ?_ ?_) | (with_reducible omega) | (refine le_maxLen ?_; omega) | (refine List.forall_mem_cons.2 ⟨?_, ?_⟩)))
    all_goals (first | omega | skip)
    obtain ⟨f, hf⟩ : ∃ f : Nat → Bool, ∀ j, f j = decide ((S.getD j []).getD m 0 ≠ 0) := ⟨_, fun _ => rfl⟩
    have h00 : idxR f 0 = -1 := rfl
    refine Ok.loopN [70, 69, 68, 67, 66, 65, 64, 63, 62, 61, 60, 59, 58, 57, 56, 55, 54, 53, 52, 51, 50, 49, 14, 13] (fun j (_ : Unit) => [(14, .d (.int .i64 (j : Nat))), (13, .d (.int .i64 (idxR f j)))]) (fun _ _ => []) S.length (fun _ _ => True) () trivial (by refine Wk.auto ?_ ?_ <;> simp [extraK, lk, killL, St.kill, wipeO, wipeS, AV.has, AV.hasL, AO.wipe, List.map_set, updSt, insL, dropS, ins, D.ints, D.nats, h00]) ?_
    rintro R1 j ⟨⟩ hN hE1 hj _
    by_cases hlt1 : j < S.length
    · have hes := el_intss (xs := S) hlt1
      have hsv := (hEl.vs _ (getD_mem (z := ([] : List Int)) hlt1)).1
      have i1 := idx_yes (f := f) (n := j)
      have i2 := idx_has (f := f) (n := j)
      have i3 := idx_no (f := f) (n := j)
      rw [hf, decide_eq_true_eq] at i1
      rw [hf, decide_eq_false_iff_not, zda] at i3
      generalize idxR f (j + 1) = z1 at *
      generalize idxR f j = z0 at *
      have her := el_ints (xs := S.getD j []) (i := m) (by omega)
      clear hEl hGm hGp hGlt hbig hnd hdm hn2 hfin hN0 hE0 hE
      obtain ⟨b, hb, e1⟩ : ∃ b, ((S.getD j []).getD m 0 != 0) = b ∧ ((b = true ∧ z0 < 0 ∧ z1 = j) ∨ ((b = false ∨ ¬ z0 < 0) ∧ z1 = z0)) := by
        refine ⟨_, rfl, ?_⟩
        by_cases hz : (S.getD j []).getD m 0 = 0
        · exact .inr ⟨.inl (by rw [hz]; rfl), i3 hz⟩
        · by_cases hn : z0 < 0
          · exact .inl ⟨bne_iff_ne.2 hz, hn, i1 hz hn⟩
          · exact .inr ⟨.inr hn, i2 hn⟩
      clear i1 i2 i3
      by_cases hn : z0 < 0
      all_goals
        cases b
        all_goals
          simp only [hn, Bool.false_eq_true, reduceCtorEq, not_true_eq_false, not_false_eq_true, true_and, false_and, false_or, or_false, or_true, true_or, and_self] at e1
          simp (disch := first | omega | decide +kernel) only [D.ints, D.nats, hqi, hes, heg, her, hb, Int.toNat_natCast, go_sem, zqa, zqb, zqc, zqd, zqe, ↓reduceIte, reduceCtorEq, zqf, zqg, zqh]
          (repeat' (first | ((first | (refine gsel_split (fun q' => ?_) (fun q' => ?_) <;> (have h' := q') <;> (try simp only [decide_eq_true_eq, decide_eq_false_iff_not, zba, zbb, bne_iff_ne, ne_eq, beq_iff_eq, bne_eq_false_iff_eq, beq_eq_false_iff_ne, zia, zib, zic, zid, zda, zbc, zbd, zbe, gt_iff_lt, ge_iff_le] at h') <;> try (exfalso; omega)) | (have q' := trivial; first | refine hE _ _ ret_ne ?_ | refine hE _ _ exit_ne ?_)) <;> (try simp (disch := first | omega | decide +kernel) only [q', D.ints, D.nats, hqi, hes, heg, her, hb, Int.toNat_natCast, go_sem, zqa, zqb, zqc, zqd, zqe, ↓reduceIte, reduceCtorEq, zqf, zqg, zqh]) <;> clear q') | (refine hN _ ?_ ?_ Wk.kk) | (with_reducible refine And.intro ?_ ?_) | (with_reducible omega) | (refine le_maxLen ?_; omega) | (refine List.forall_mem_cons.2 ⟨?_, ?_⟩)))
          all_goals (first | omega | (refine hN () _ hlt1 trivial (by refine Wk.auto ?_ ?_ <;> simp [extraK, lk, killL, St.kill, wipeO, wipeS, AV.has, AV.hasL, AO.wipe, List.map_set, updSt, insL, dropS, ins, D.ints, D.nats, e1]); done))
    · obtain rfl : j = S.length := by omega
      have hnx2 : (G.length : Int) - 1 - ((i : Int) + 1) = (q : Int) - 1 := by omega
      clear hN hE0 hE
      have hfin2 := hfin
      rcases idxR_bd f S.length with ha | ⟨k, ha, hk, hfk⟩
      · have hno := idxR_all (f := f) (n := S.length) (by omega)
        have hsk := Elim.skip hp hu hEl (m := m) (fun s hs => by
          obtain ⟨n, hn, rfl⟩ := mem_getD [] hs
          have := hno n hn
          rw [hf, decide_eq_false_iff_not, zda] at this
          exact this) hdm
        have hgo := hn2 (S, T, Ls) ⟨hsk, hLs, hSl⟩
        rw [ha]
        have hE := hE1
        clear hEl hGm hGp hGlt hbig hnd hdm hn2 hfin hfin2 hsk hno hf
        simp (disch := first | omega | decide +kernel) only [D.ints, D.nats, go_sem, zqa, zqb, zqc, zqd, zqe, ↓reduceIte, reduceCtorEq, zqf, zqg, zqh]
        (repeat' (first | ((first | (refine gsel_split (fun q' => ?_) (fun q' => ?_) <;> (have h' := q') <;> (try simp only [decide_eq_true_eq, decide_eq_false_iff_not, zba, zbb, bne_iff_ne, ne_eq, beq_iff_eq, bne_eq_false_iff_eq, beq_eq_false_iff_ne, zia, zib, zic, zid, zda, zbc, zbd, zbe, gt_iff_lt, ge_iff_le] at h') <;> try (exfalso; omega)) | (have q' := trivial; first | refine hE _ _ ret_ne ?_ | refine hE _ _ exit_ne ?_)) <;> (try simp (disch := first | omega | decide +kernel) only [q', D.ints, D.nats, go_sem, zqa, zqb, zqc, zqd, zqe, ↓reduceIte, reduceCtorEq, zqf, zqg, zqh]) <;> clear q') | (refine hN _ ?_ ?_ Wk.kk) | (with_reducible refine And.intro ?_ ?_) | (with_reducible omega) | (refine le_maxLen ?_; omega) | (refine List.forall_mem_cons.2 ⟨?_, ?_⟩)))
        all_goals (first | omega | (refine hN0 (S, T, Ls) _ hlt hgo (by refine Wk.auto ?_ ?_ <;> simp [extraK, lk, killL, St.kill, wipeO, wipeS, AV.has, AV.hasL, AO.wipe, List.map_set, updSt, insL, dropS, ins, D.ints, D.nats, hnx, hnx2]); done))
      · rw [hf, decide_eq_true_eq] at hfk
        have hsv := hEl.vs _ (getD_mem (z := ([] : List Int)) hk)
        have hsm := hsv.2 m
        have hsplit := split_at (S := S) hk
        obtain ⟨e1, hEl2⟩ := Elim.step hp hu (S1 := S.take k) (S2 := S.drop (k + 1)) (s := S.getD k []) (by rw [← hsplit]; exact hEl) hfk hdm hbig hnd
        have c6 := l19Invert_ok hp (c := (S.getD k []).getD m 0) ⟨by omega, hsm.2⟩
        obtain ⟨v1, v2, _, _⟩ := invN_ok hp (c := (S.getD k []).getD m 0) ⟨by omega, hsm.2⟩
        have c7 := l19Times_ok hp1 hu (k := (invN p ((S.getD k []).getD m 0) : Int)) ⟨by omega, by omega⟩ hsv
        have hrow := hEl2.ech.vec (timesV p (S.getD k []) (invN p ((S.getD k []).getD m 0) : Int)) (by simp)
        have hvs2 := hEl.vs
        have hTo := hEl.ech.vec
        have hLs2 := hLs
        have hLeq := Elim.step_ld hp hu (S1 := S.take k) (S2 := S.drop (k + 1)) (s := S.getD k []) (by rw [← hsplit]; exact hEl) hfk hdm hbig hnd
        have hes := el_intss (xs := S) hk
        have her := el_ints (xs := S.getD k []) (i := m) (by rw [hsv.1]; exact hm)
        have hdr : (S.drop (k + 1)).take (S.length - (k + 1)) = S.drop (k + 1) := List.take_of_length_le (by simp)
        rw [ha]
        have hE := hE1
        clear hEl hGm hGp hGlt hbig hnd hdm hfin hf hsplit
        generalize timesV p (S.getD k []) (invN p ((S.getD k []).getD m 0) : Int) = row at *
        generalize hii : (invN p ((S.getD k []).getD m 0) : Int) = iv at *
        generalize hcc : (S.getD k []).getD m 0 = cc at *
        generalize hss : S.getD k [] = s at *
        have hk1 : ((k : Int) + 1).toNat = k + 1 := by omega
        obtain ⟨SP, hSP⟩ : ∃ SP, SP = S.take k ++ S.drop (k + 1) := ⟨_, rfl⟩
        rw [← hSP] at hEl2
        have hSPl : SP.length ≤ 64 := by rw [hSP]; simp; omega
        have hSPv : ∀ s ∈ SP, Vec p (2 ^ u) s := fun s hs => by
          rw [hSP] at hs
          rcases List.mem_append.1 hs with h | h
          · exact hvs2 _ (List.mem_of_mem_take h)
          · exact hvs2 _ (List.mem_of_mem_drop h)
        have hTv := hEl2.ech.vec
        have hTv2 : ∀ r ∈ T, Vec p (2 ^ u) r := fun r hr => hTo r hr
        have hld : (T.map (clr p m row) ++ [row]).map ldG = Ls ++ [m] := by
          rw [List.map_append, List.map_map, hLs2, List.map_cons, List.map_nil, e1]
          congr 1
          exact List.map_congr_left fun r hr => hLeq r hr
        have hgo := hn2 (SP.map (clr p m row), T.map (clr p m row) ++ [row], Ls ++ [m]) ⟨hEl2, hld.symm, by simp; omega⟩
        clear hEl2 hn2 hvs2 hLs hfk e1 hld hTv hLeq
        have hclr : ∀ r, addD p (p - r.getD m 0) r row = clr p m row r := fun r => rfl
        generalize hF : clr p m row = F at *
        have hc : (k = 0 ∧ S.drop (k + 1) = []) ∨ (k = 0 ∧ ∃ y r, S.drop (k + 1) = y :: r) ∨ 0 < k := by
          rcases Nat.eq_zero_or_pos k with h | h
          · cases h2 : S.drop (k + 1) with
            | nil => exact .inl ⟨h, rfl⟩
            | cons y r => exact .inr (.inl ⟨h, y, r, rfl⟩)
          · exact .inr (.inr h)
        rcases hc with ⟨h0, hd0⟩ | hc
        · have hz : S.take k = [] := by rw [h0]; rfl
          have hSPe : SP = [] := by rw [hSP, hz, hd0]; rfl
          have hK0 : True := trivial
          simp (disch := first | omega | decide +kernel) only [D.ints, D.nats, go_sem, zqa, zqb, zqc, zqd, zqe, ↓reduceIte, reduceCtorEq, zqf, zqg, zqh]
          (repeat' (first | ((first | (refine gsel_split (fun q' => ?_) (fun q' => ?_) <;> (have h' := q') <;> (try simp only [decide_eq_true_eq, decide_eq_false_iff_not, zba, zbb, bne_iff_ne, ne_eq, beq_iff_eq, bne_eq_false_iff_eq, beq_eq_false_iff_ne, zia, zib, zic, zid, zda, zbc, zbd, zbe, gt_iff_lt, ge_iff_le] at h') <;> try (exfalso; omega)) | (have q' := trivial; first | refine callX_new (c6) rfl (by decide) ?_ | refine callY_new (c6) rfl ?_ | refine callX_shared (c7) rfl (by decide) ?_ | refine callY_shared (c7) rfl ?_ | refine hE _ _ ret_ne ?_ | refine hE _ _ exit_ne ?_)) <;> (try simp (disch := first | omega | decide +kernel) only [q', D.ints, D.nats, hes, heg, her, hz, hd0, List.map_nil, List.take_nil, hk1, hdr, hK0, Int.toNat_natCast, go_sem, zqa, zqb, zqc, zqd, zqe, ↓reduceIte, reduceCtorEq, zqf, zqg, zqh]) <;> clear q') | (refine hN _ ?_ ?_ Wk.kk) | (with_reducible refine And.intro ?_ ?_) | (with_reducible omega) | (exact ok_ints) | (exact cells_ints) | (exact no_mem) | (with_reducible exact plain_ints) | (refine le_maxLen ?_; omega) | (refine List.forall_mem_cons.2 ⟨?_, ?_⟩) | (simp only [go_sem, zqc, zqb, List.mem_cons, List.not_mem_nil, forall_eq]; done)))
          all_goals (first | omega | (rw [hsv.1]; omega) | exact cells_dns | exact ok_dns | skip)
          refine Ok.weak Wk.e0 ?_
          simp (disch := first | omega | decide +kernel) only [e0S, go_sem, zqa, zqb, zqc, zqd, zqe, ↓reduceIte, reduceCtorEq, zqf, zqg, zqh]
          refine Ok.loopN [126, 125, 124, 123, 122, 121, 120, 119, 118, 117, 116, 115, 114, 113, 112, 111, 110, 109, 108, 107, 106, 105, 104, 103, 102, 101, 16] (fun j (_ : Unit) => [(16, .d (.int .i64 (j : Nat)))]) (fun _ _ => []) 0 (fun _ _ => True) () trivial (by refine Wk.auto ?_ ?_ <;> simp [extraK, lk, killL, St.kill, wipeO, wipeS, AV.has, AV.hasL, AO.wipe, List.map_set, updSt, insL, dropS, ins, D.ints, D.nats]) ?_
          rintro R2 j ⟨⟩ hN hE2 hj _
          obtain rfl : j = 0 := by omega
          clear hN hE hE1
          have hE := hE2
          simp (disch := first | omega | decide +kernel) only [D.ints, D.nats, go_sem, zqa, zqb, zqc, zqd, zqe, ↓reduceIte, reduceCtorEq, zqf, zqg, zqh]
          (repeat' (first | ((first | (refine gsel_split (fun q' => ?_) (fun q' => ?_) <;> (have h' := q') <;> (try simp only [decide_eq_true_eq, decide_eq_false_iff_not, zba, zbb, bne_iff_ne, ne_eq, beq_iff_eq, bne_eq_false_iff_eq, beq_eq_false_iff_ne, zia, zib, zic, zid, zda, zbc, zbd, zbe, gt_iff_lt, ge_iff_le] at h') <;> try (exfalso; omega)) | (have q' := trivial; first | refine hE _ _ ret_ne ?_ | refine hE _ _ exit_ne ?_)) <;> (try simp (disch := first | omega | decide +kernel) only [q', D.ints, D.nats, go_sem, zqa, zqb, zqc, zqd, zqe, ↓reduceIte, reduceCtorEq, zqf, zqg, zqh]) <;> clear q') | (refine hN _ ?_ ?_ Wk.kk) | (with_reducible refine And.intro ?_ ?_) | (with_reducible omega) | (refine le_maxLen ?_; omega) | (refine List.forall_mem_cons.2 ⟨?_, ?_⟩)))
          all_goals (first | omega | skip)
          refine Ok.loopN [152, 151, 150, 149, 148, 147, 146, 145, 144, 143, 142, 141, 140, 139, 138, 137, 136, 135, 134, 133, 132, 131, 130, 129, 128, 127, 17] (fun j (_ : Unit) => [(17, .d (.int .i64 (j : Nat)))]) (fun j _ => [(40, .arr 26 1 ((mapK F T j).map D.ints))]) T.length (fun _ _ => True) () trivial (by refine Wk.auto ?_ ?_ <;> simp [extraK, lk, killL, St.kill, wipeO, wipeS, AV.has, AV.hasL, AO.wipe, List.map_set, updSt, insL, dropS, ins, D.ints, D.nats, mapK_zero]) ?_
          rintro R3 j ⟨⟩ hN hE3 hj _
          by_cases hlt3 : j < T.length
          · have hat := mapK_at [] F T hlt3
            have hset := mapK_set [] F T hlt3
            have hml := mapK_len F T j
            have hsj := hTv2 _ (getD_mem (z := ([] : List Int)) hlt3)
            have hej := el_intss (xs := mapK F T j) (i := j) (by omega)
            rw [hat] at hej
            have hs2 : (List.map D.ints (mapK F T j)).set j (D.slice (List.map (D.int .i64) (F (T.getD j [])))) = List.map D.ints (mapK F T (j + 1)) := by rw [← hset, List.map_set] <;> rfl
            have herj := el_ints (xs := T.getD j []) (i := m) (by rw [hsj.1]; exact hm)
            have hsjm := hsj.2 m
            have c8 := l19Less_ok hp1 hu (k := (T.getD j []).getD m 0) hsjm hsj hrow
            rw [hclr] at c8
            clear hset hat hTv2
            generalize F (T.getD j []) = sj2 at *
            generalize hcj : (T.getD j []).getD m 0 = cj at *
            generalize hsj2 : T.getD j [] = sj at *
            generalize mapK F T (j + 1) = M2 at *
            generalize mapK F T j = M1 at *
            simp (disch := first | omega | decide +kernel) only [D.ints, D.nats, hej, heg, herj, Int.toNat_natCast, go_sem, zqa, zqb, zqc, zqd, zqe, ↓reduceIte, reduceCtorEq, zqf, zqg, zqh]
            (repeat' (first | ((first | (refine gsel_split (fun q' => ?_) (fun q' => ?_) <;> (have h' := q') <;> (try simp only [decide_eq_true_eq, decide_eq_false_iff_not, zba, zbb, bne_iff_ne, ne_eq, beq_iff_eq, bne_eq_false_iff_eq, beq_eq_false_iff_ne, zia, zib, zic, zid, zda, zbc, zbd, zbe, gt_iff_lt, ge_iff_le] at h') <;> try (exfalso; omega)) | (have q' := trivial; first | refine callX_shared (c8) rfl (by decide) ?_ | refine callY_shared (c8) rfl ?_ | refine hE _ _ ret_ne ?_ | refine hE _ _ exit_ne ?_)) <;> (try simp (disch := first | omega | decide +kernel) only [q', D.ints, D.nats, hej, heg, herj, hs2, Int.toNat_natCast, go_sem, zqa, zqb, zqc, zqd, zqe, ↓reduceIte, reduceCtorEq, zqf, zqg, zqh]) <;> clear q') | (refine hN _ ?_ ?_ Wk.kk) | (with_reducible refine And.intro ?_ ?_) | (with_reducible omega) | (refine le_maxLen ?_; omega) | (refine List.forall_mem_cons.2 ⟨?_, ?_⟩)))
            all_goals (first | omega | (rw [hsj.1]; omega) | (refine hN () _ hlt3 trivial (by refine Wk.auto ?_ ?_ <;> simp [extraK, lk, killL, St.kill, wipeO, wipeS, AV.has, AV.hasL, AO.wipe, List.map_set, updSt, insL, dropS, ins, D.ints, D.nats, hs2]); done))
          · obtain rfl : j = T.length := by omega
            rw [mapK_all]
            clear hN hE
            have hE := hE3
            have hTl2 : (T.map F).length = T.length := by simp
            have hap : List.map D.ints (T.map F) ++ [D.slice (List.map (D.int .i64) row)] = List.map D.ints (T.map F ++ [row]) := by rw [List.map_append]; rfl
            have hap2 : (List.map (fun m => D.int .i64 (m : Nat)) Ls) ++ [D.int .i64 (m : Nat)] = List.map (fun m => D.int .i64 (m : Nat)) (Ls ++ [m]) := by rw [List.map_append]; rfl
            have hLl : Ls.length ≤ 64 := by rw [hLs2, List.length_map]; omega
            have hS9 : SP.map F = [] := by rw [hSPe]; rfl
            rw [hS9] at hgo
            generalize hT9 : T.map F ++ [row] = T9 at *
            generalize T.map F = T8 at *
            generalize hL9 : Ls ++ [m] = L9 at *
            simp (disch := first | omega | decide +kernel) only [D.ints, D.nats, heg, hap, hap2, go_sem, zqa, zqb, zqc, zqd, zqe, ↓reduceIte, reduceCtorEq, zqf, zqg, zqh]
            (repeat' (first | ((first | (refine gsel_split (fun q' => ?_) (fun q' => ?_) <;> (have h' := q') <;> (try simp only [decide_eq_true_eq, decide_eq_false_iff_not, zba, zbb, bne_iff_ne, ne_eq, beq_iff_eq, bne_eq_false_iff_eq, beq_eq_false_iff_ne, zia, zib, zic, zid, zda, zbc, zbd, zbe, gt_iff_lt, ge_iff_le] at h') <;> try (exfalso; omega)) | (have q' := trivial; first | refine hE _ _ ret_ne ?_ | refine hE _ _ exit_ne ?_)) <;> (try simp (disch := first | omega | decide +kernel) only [q', D.ints, D.nats, heg, hap, hap2, Int.toNat_natCast, go_sem, zqa, zqb, zqc, zqd, zqe, ↓reduceIte, reduceCtorEq, zqf, zqg, zqh]) <;> clear q') | (refine hN _ ?_ ?_ Wk.kk) | (with_reducible refine And.intro ?_ ?_) | (with_reducible omega) | (exact ok_ints) | (exact cells_ints) | (exact no_mem) | (with_reducible exact plain_ints) | (refine le_maxLen ?_; omega) | (refine List.forall_mem_cons.2 ⟨?_, ?_⟩) | (simp only [go_sem, zqc, zqb, List.mem_cons, List.not_mem_nil, forall_eq]; done)))
            all_goals (first | omega | (refine hN0 ([], T9, L9) _ hlt hgo (by refine Wk.auto ?_ ?_ <;> simp [extraK, lk, killL, St.kill, wipeO, wipeS, AV.has, AV.hasL, AO.wipe, List.map_set, updSt, insL, dropS, ins, D.ints, D.nats, hnx, hnx2, hap, hap2, List.map_nil]); done))
        · rcases hc with ⟨h0, y, r, hd0⟩ | h0
          all_goals
            first
            | have hz : S.take k = [] := by rw [h0]; rfl
              have hK0 : D.slice (List.map (D.int .i64) y) :: List.map D.ints r = List.map D.ints SP := by rw [hSP, hz, hd0]; rfl
              have hrl : r.length + 1 ≤ 64 := by have := congrArg List.length hd0; rw [List.length_drop, List.length_cons] at this; omega
              have hdr4 : List.take (S.length - (k + 1)) (D.slice (List.map (D.int .i64) y) :: List.map D.ints r) = D.slice (List.map (D.int .i64) y) :: List.map D.ints r := List.take_of_length_le (by have := congrArg List.length hd0; rw [List.length_drop, List.length_cons] at this; simp; omega)
              simp (disch := first | omega | decide +kernel) only [D.ints, D.nats, go_sem, zqa, zqb, zqc, zqd, zqe, ↓reduceIte, reduceCtorEq, zqf, zqg, zqh]
              (repeat' (first | ((first | (refine gsel_split (fun q' => ?_) (fun q' => ?_) <;> (have h' := q') <;> (try simp only [decide_eq_true_eq, decide_eq_false_iff_not, zba, zbb, bne_iff_ne, ne_eq, beq_iff_eq, bne_eq_false_iff_eq, beq_eq_false_iff_ne, zia, zib, zic, zid, zda, zbc, zbd, zbe, gt_iff_lt, ge_iff_le] at h') <;> try (exfalso; omega)) | (have q' := trivial; first | refine callX_new (c6) rfl (by decide) ?_ | refine callY_new (c6) rfl ?_ | refine callX_shared (c7) rfl (by decide) ?_ | refine callY_shared (c7) rfl ?_ | refine hE _ _ ret_ne ?_ | refine hE _ _ exit_ne ?_)) <;> (try simp (disch := first | omega | decide +kernel) only [q', D.ints, D.nats, hes, heg, her, hz, hd0, List.map_nil, List.map_cons, hk1, hdr4, Int.toNat_natCast, go_sem, zqa, zqb, zqc, zqd, zqe, ↓reduceIte, reduceCtorEq, zqf, zqg, zqh]) <;> clear q') | (refine hN _ ?_ ?_ Wk.kk) | (with_reducible refine And.intro ?_ ?_) | (with_reducible omega) | (exact ok_ints) | (exact cells_ints) | (exact no_mem) | (with_reducible exact plain_ints) | (refine le_maxLen ?_; omega) | (refine List.forall_mem_cons.2 ⟨?_, ?_⟩) | (simp only [go_sem, zqc, zqb, List.mem_cons, List.not_mem_nil, forall_eq]; done)))
              all_goals (first | omega | (rw [hsv.1]; omega) | exact cells_dns | exact ok_dns | skip)
              refine Ok.weak (Wk.swp 95 100) ?_
              simp (disch := first | omega | decide +kernel) only [swpS, swpO, swp, AV.ren, AV.renL, AO.ren, hK0, go_sem, zqa, zqb, zqc, zqd, zqe, ↓reduceIte, reduceCtorEq, zqf, zqg, zqh]
            | obtain ⟨y, r, hz⟩ : ∃ y r, S.take k = y :: r := by
                cases hh : S.take k with
                | nil => have := congrArg List.length hh; rw [List.length_take, List.length_nil] at this; omega
                | cons y r => exact ⟨y, r, rfl⟩
              have hrl : r.length + 1 ≤ 64 := by have := congrArg List.length hz; rw [List.length_take, List.length_cons] at this; omega
              have hK0 : D.slice (List.map (D.int .i64) y) :: (List.map D.ints r ++ List.map D.ints (S.drop (k + 1))) = List.map D.ints SP := by rw [hSP, hz]; simp [D.ints]
              simp (disch := first | omega | decide +kernel) only [D.ints, D.nats, go_sem, zqa, zqb, zqc, zqd, zqe, ↓reduceIte, reduceCtorEq, zqf, zqg, zqh]
              (repeat' (first | ((first | (refine gsel_split (fun q' => ?_) (fun q' => ?_) <;> (have h' := q') <;> (try simp only [decide_eq_true_eq, decide_eq_false_iff_not, zba, zbb, bne_iff_ne, ne_eq, beq_iff_eq, bne_eq_false_iff_eq, beq_eq_false_iff_ne, zia, zib, zic, zid, zda, zbc, zbd, zbe, gt_iff_lt, ge_iff_le] at h') <;> try (exfalso; omega)) | (have q' := trivial; first | refine callX_new (c6) rfl (by decide) ?_ | refine callY_new (c6) rfl ?_ | refine callX_shared (c7) rfl (by decide) ?_ | refine callY_shared (c7) rfl ?_ | refine hE _ _ ret_ne ?_ | refine hE _ _ exit_ne ?_)) <;> (try simp (disch := first | omega | decide +kernel) only [q', D.ints, D.nats, hes, heg, her, hz, List.map_cons, List.cons_append, hk1, hdr, hK0, Int.toNat_natCast, go_sem, zqa, zqb, zqc, zqd, zqe, ↓reduceIte, reduceCtorEq, zqf, zqg, zqh]) <;> clear q') | (refine hN _ ?_ ?_ Wk.kk) | (with_reducible refine And.intro ?_ ?_) | (with_reducible omega) | (exact ok_ints) | (exact cells_ints) | (exact no_mem) | (with_reducible exact plain_ints) | (refine le_maxLen ?_; omega) | (refine List.forall_mem_cons.2 ⟨?_, ?_⟩) | (simp only [go_sem, zqc, zqb, List.mem_cons, List.not_mem_nil, forall_eq]; done)))
              all_goals (first | omega | (rw [hsv.1]; omega) | exact cells_dns | exact ok_dns | skip)
          all_goals
            refine Ok.loopN [126, 125, 124, 123, 122, 121, 120, 119, 118, 117, 116, 115, 114, 113, 112, 111, 110, 109, 108, 107, 106, 105, 104, 103, 102, 101, 16] (fun j (_ : Unit) => [(16, .d (.int .i64 (j : Nat)))]) (fun j _ => [(95, .arr 26 1 ((mapK F SP j).map D.ints))]) SP.length (fun _ _ => True) () trivial (by refine Wk.auto ?_ ?_ <;> simp [extraK, lk, killL, St.kill, wipeO, wipeS, AV.has, AV.hasL, AO.wipe, List.map_set, updSt, insL, dropS, ins, D.ints, D.nats, mapK_zero]) ?_
            rintro R2 j ⟨⟩ hN hE2 hj _
            by_cases hlt2 : j < SP.length
            · have hat := mapK_at [] F SP hlt2
              have hset := mapK_set [] F SP hlt2
              have hml := mapK_len F SP j
              have hsj := hSPv _ (getD_mem (z := ([] : List Int)) hlt2)
              have hej := el_intss (xs := mapK F SP j) (i := j) (by omega)
              rw [hat] at hej
              have hs2 : (List.map D.ints (mapK F SP j)).set j (D.slice (List.map (D.int .i64) (F (SP.getD j [])))) = List.map D.ints (mapK F SP (j + 1)) := by rw [← hset, List.map_set] <;> rfl
              have herj := el_ints (xs := SP.getD j []) (i := m) (by rw [hsj.1]; exact hm)
              have hsjm := hsj.2 m
              have c8 := l19Less_ok hp1 hu (k := (SP.getD j []).getD m 0) hsjm hsj hrow
              rw [hclr] at c8
              clear hset hat hSPv
              generalize F (SP.getD j []) = sj2 at *
              generalize hcj : (SP.getD j []).getD m 0 = cj at *
              generalize hsj2 : SP.getD j [] = sj at *
              generalize mapK F SP (j + 1) = M2 at *
              generalize mapK F SP j = M1 at *
              simp (disch := first | omega | decide +kernel) only [D.ints, D.nats, hej, heg, herj, Int.toNat_natCast, go_sem, zqa, zqb, zqc, zqd, zqe, ↓reduceIte, reduceCtorEq, zqf, zqg, zqh]
              (repeat' (first | ((first | (refine gsel_split (fun q' => ?_) (fun q' => ?_) <;> (have h' := q') <;> (try simp only [decide_eq_true_eq, decide_eq_false_iff_not, zba, zbb, bne_iff_ne, ne_eq, beq_iff_eq, bne_eq_false_iff_eq, beq_eq_false_iff_ne, zia, zib, zic, zid, zda, zbc, zbd, zbe, gt_iff_lt, ge_iff_le] at h') <;> try (exfalso; omega)) | (have q' := trivial; first | refine callX_shared (c8) rfl (by decide) ?_ | refine callY_shared (c8) rfl ?_ | refine hE _ _ ret_ne ?_ | refine hE _ _ exit_ne ?_)) <;> (try simp (disch := first | omega | decide +kernel) only [q', D.ints, D.nats, hej, heg, herj, hs2, Int.toNat_natCast, go_sem, zqa, zqb, zqc, zqd, zqe, ↓reduceIte, reduceCtorEq, zqf, zqg, zqh]) <;> clear q') | (refine hN _ ?_ ?_ Wk.kk) | (with_reducible refine And.intro ?_ ?_) | (with_reducible omega) | (refine le_maxLen ?_; omega) | (refine List.forall_mem_cons.2 ⟨?_, ?_⟩)))
              all_goals (first | omega | (rw [hsj.1]; omega) | (refine hN () _ hlt2 trivial (by refine Wk.auto ?_ ?_ <;> simp [extraK, lk, killL, St.kill, wipeO, wipeS, AV.has, AV.hasL, AO.wipe, List.map_set, updSt, insL, dropS, ins, D.ints, D.nats, hs2]); done))
            · obtain rfl : j = SP.length := by omega
              rw [mapK_all]
              clear hN hE hE1
              have hE := hE2
              simp (disch := first | omega | decide +kernel) only [D.ints, D.nats, go_sem, zqa, zqb, zqc, zqd, zqe, ↓reduceIte, reduceCtorEq, zqf, zqg, zqh]
              (repeat' (first | ((first | (refine gsel_split (fun q' => ?_) (fun q' => ?_) <;> (have h' := q') <;> (try simp only [decide_eq_true_eq, decide_eq_false_iff_not, zba, zbb, bne_iff_ne, ne_eq, beq_iff_eq, bne_eq_false_iff_eq, beq_eq_false_iff_ne, zia, zib, zic, zid, zda, zbc, zbd, zbe, gt_iff_lt, ge_iff_le] at h') <;> try (exfalso; omega)) | (have q' := trivial; first | refine hE _ _ ret_ne ?_ | refine hE _ _ exit_ne ?_)) <;> (try simp (disch := first | omega | decide +kernel) only [q', D.ints, D.nats, go_sem, zqa, zqb, zqc, zqd, zqe, ↓reduceIte, reduceCtorEq, zqf, zqg, zqh]) <;> clear q') | (refine hN _ ?_ ?_ Wk.kk) | (with_reducible refine And.intro ?_ ?_) | (with_reducible omega) | (refine le_maxLen ?_; omega) | (refine List.forall_mem_cons.2 ⟨?_, ?_⟩)))
              all_goals (first | omega | skip)
              refine Ok.weak (Wk.frz (j := 95) rfl) ?_
              simp (disch := first | omega | decide +kernel) only [St.frz, frzS, frzO, AV.frz, AV.frzL, AO.frz, go_sem, zqa, zqb, zqc, zqd, zqe, ↓reduceIte, reduceCtorEq, zqf, zqg, zqh]
              refine Ok.loopN [152, 151, 150, 149, 148, 147, 146, 145, 144, 143, 142, 141, 140, 139, 138, 137, 136, 135, 134, 133, 132, 131, 130, 129, 128, 127, 17] (fun j (_ : Unit) => [(17, .d (.int .i64 (j : Nat)))]) (fun j _ => [(40, .arr 26 1 ((mapK F T j).map D.ints))]) T.length (fun _ _ => True) () trivial (by refine Wk.auto ?_ ?_ <;> simp [extraK, lk, killL, St.kill, wipeO, wipeS, AV.has, AV.hasL, AO.wipe, List.map_set, updSt, insL, dropS, ins, D.ints, D.nats, mapK_zero]) ?_
              rintro R3 j ⟨⟩ hN hE3 hj _
              by_cases hlt3 : j < T.length
              · have hat := mapK_at [] F T hlt3
                have hset := mapK_set [] F T hlt3
                have hml := mapK_len F T j
                have hsj := hTv2 _ (getD_mem (z := ([] : List Int)) hlt3)
                have hej := el_intss (xs := mapK F T j) (i := j) (by omega)
                rw [hat] at hej
                have hs2 : (List.map D.ints (mapK F T j)).set j (D.slice (List.map (D.int .i64) (F (T.getD j [])))) = List.map D.ints (mapK F T (j + 1)) := by rw [← hset, List.map_set] <;> rfl
                have herj := el_ints (xs := T.getD j []) (i := m) (by rw [hsj.1]; exact hm)
                have hsjm := hsj.2 m
                have c8 := l19Less_ok hp1 hu (k := (T.getD j []).getD m 0) hsjm hsj hrow
                rw [hclr] at c8
                clear hset hat hTv2
                generalize F (T.getD j []) = sj2 at *
                generalize hcj : (T.getD j []).getD m 0 = cj at *
                generalize hsj2 : T.getD j [] = sj at *
                generalize mapK F T (j + 1) = M2 at *
                generalize mapK F T j = M1 at *
                simp (disch := first | omega | decide +kernel) only [D.ints, D.nats, hej, heg, herj, Int.toNat_natCast, go_sem, zqa, zqb, zqc, zqd, zqe, ↓reduceIte, reduceCtorEq, zqf, zqg, zqh]
                (repeat' (first | ((first | (refine gsel_split (fun q' => ?_) (fun q' => ?_) <;> (have h' := q') <;> (try simp only [decide_eq_true_eq, decide_eq_false_iff_not, zba, zbb, bne_iff_ne, ne_eq, beq_iff_eq, bne_eq_false_iff_eq, beq_eq_false_iff_ne, zia, zib, zic, zid, zda, zbc, zbd, zbe, gt_iff_lt, ge_iff_le] at h') <;> try (exfalso; omega)) | (have q' := trivial; first | refine callX_shared (c8) rfl (by decide) ?_ | refine callY_shared (c8) rfl ?_ | refine hE _ _ ret_ne ?_ | refine hE _ _ exit_ne ?_)) <;> (try simp (disch := first | omega | decide +kernel) only [q', D.ints, D.nats, hej, heg, herj, hs2, Int.toNat_natCast, go_sem, zqa, zqb, zqc, zqd, zqe, ↓reduceIte, reduceCtorEq, zqf, zqg, zqh]) <;> clear q') | (refine hN _ ?_ ?_ Wk.kk) | (with_reducible refine And.intro ?_ ?_) | (with_reducible omega) | (refine le_maxLen ?_; omega) | (refine List.forall_mem_cons.2 ⟨?_, ?_⟩)))
                all_goals (first | omega | (rw [hsj.1]; omega) | (refine hN () _ hlt3 trivial (by refine Wk.auto ?_ ?_ <;> simp [extraK, lk, killL, St.kill, wipeO, wipeS, AV.has, AV.hasL, AO.wipe, List.map_set, updSt, insL, dropS, ins, D.ints, D.nats, hs2]); done))
              · obtain rfl : j = T.length := by omega
                rw [mapK_all]
                clear hN hE
                have hE := hE3
                have hTl2 : (T.map F).length = T.length := by simp
                have hap : List.map D.ints (T.map F) ++ [D.slice (List.map (D.int .i64) row)] = List.map D.ints (T.map F ++ [row]) := by rw [List.map_append]; rfl
                have hap2 : (List.map (fun m => D.int .i64 (m : Nat)) Ls) ++ [D.int .i64 (m : Nat)] = List.map (fun m => D.int .i64 (m : Nat)) (Ls ++ [m]) := by rw [List.map_append]; rfl
                have hLl : Ls.length ≤ 64 := by rw [hLs2, List.length_map]; omega
                generalize SP.map F = S9 at *
                generalize hT9 : T.map F ++ [row] = T9 at *
                generalize T.map F = T8 at *
                generalize hL9 : Ls ++ [m] = L9 at *
                simp (disch := first | omega | decide +kernel) only [D.ints, D.nats, heg, hap, hap2, go_sem, zqa, zqb, zqc, zqd, zqe, ↓reduceIte, reduceCtorEq, zqf, zqg, zqh]
                (repeat' (first | ((first | (refine gsel_split (fun q' => ?_) (fun q' => ?_) <;> (have h' := q') <;> (try simp only [decide_eq_true_eq, decide_eq_false_iff_not, zba, zbb, bne_iff_ne, ne_eq, beq_iff_eq, bne_eq_false_iff_eq, beq_eq_false_iff_ne, zia, zib, zic, zid, zda, zbc, zbd, zbe, gt_iff_lt, ge_iff_le] at h') <;> try (exfalso; omega)) | (have q' := trivial; first | refine hE _ _ ret_ne ?_ | refine hE _ _ exit_ne ?_)) <;> (try simp (disch := first | omega | decide +kernel) only [q', D.ints, D.nats, heg, hap, hap2, Int.toNat_natCast, go_sem, zqa, zqb, zqc, zqd, zqe, ↓reduceIte, reduceCtorEq, zqf, zqg, zqh]) <;> clear q') | (refine hN _ ?_ ?_ Wk.kk) | (with_reducible refine And.intro ?_ ?_) | (with_reducible omega) | (exact ok_ints) | (exact cells_ints) | (exact no_mem) | (with_reducible exact plain_ints) | (refine le_maxLen ?_; omega) | (refine List.forall_mem_cons.2 ⟨?_, ?_⟩) | (simp only [go_sem, zqc, zqb, List.mem_cons, List.not_mem_nil, forall_eq]; done)))
                all_goals (first | omega | (refine hN0 (S9, T9, L9) _ hlt hgo (by refine Wk.auto ?_ ?_ <;> simp [extraK, lk, killL, St.kill, wipeO, wipeS, AV.has, AV.hasL, AO.wipe, List.map_set, updSt, insL, dropS, ins, D.ints, D.nats, hnx, hnx2, hap, hap2]); done))
  · obtain rfl : i = G.length := by omega
    rw [Nat.sub_self, List.drop_zero] at hEl
    have hsp := Elim.fin hp1.1 hEl fun m hm => (hGm m).2 hm
    obtain ⟨f1, f2⟩ := hfin T hEl.ech hsp
    have hTe := hEl.ech
    have hn1 : (G.length : Int) - 1 - (G.length : Nat) = -1 := by omega
    clear hN0 hEl hsp hfin hGm hGp hGlt
    have hE := hE0
    have c5 := c5
    have hdz : monoD u 0 = dualV p u (T.take 0) := rfl
    have hml := mono_len u 0
    generalize hone : monoD u 0 = one at *
    simp (disch := first | omega | decide +kernel) only [D.ints, D.nats, hn1, go_sem, zqa, zqb, zqc, zqd, zqe, ↓reduceIte, reduceCtorEq, zqf, zqg, zqh]
    (repeat' (first | ((first | (refine gsel_split (fun q' => ?_) (fun q' => ?_) <;> (have h' := q') <;> (try simp only [decide_eq_true_eq, decide_eq_false_iff_not, zba, zbb, bne_iff_ne, ne_eq, beq_iff_eq, bne_eq_false_iff_eq, beq_eq_false_iff_ne, zia, zib, zic, zid, zda, zbc, zbd, zbe, gt_iff_lt, ge_iff_le] at h') <;> try (exfalso; omega)) | (have q' := trivial; first | refine callX_new (c5) rfl (by decide) ?_ | refine callY_new (c5) rfl ?_ | refine hE _ _ ret_ne ?_ | refine hE _ _ exit_ne ?_)) <;> (try simp (disch := first | omega | decide +kernel) only [q', D.ints, D.nats, hn1, go_sem, zqa, zqb, zqc, zqd, zqe, ↓reduceIte, reduceCtorEq, zqf, zqg, zqh]) <;> clear q') | (refine hN _ ?_ ?_ Wk.kk) | (with_reducible refine And.intro ?_ ?_) | (with_reducible omega) | (refine le_maxLen ?_; omega) | (refine List.forall_mem_cons.2 ⟨?_, ?_⟩)))
    all_goals (first | omega | skip)
    refine Ok.loopN [195, 194, 193, 192, 191, 190, 189, 188, 187, 186, 185, 184, 183, 182, 181, 180, 179, 178, 177, 176, 175, 174, 173, 172, 171, 170, 169, 168, 167, 166, 165, 164, 163, 162, 161, 160, 159, 158, 157, 156, 155, 154, 153, 152, 151, 150, 149, 148, 147, 146, 145, 144, 143, 142, 141, 140, 139, 138, 137, 136, 135, 134, 133, 132, 131, 130, 129, 128, 127, 126, 125, 124, 123, 122, 121, 120, 119, 118, 117, 116, 115, 114, 113, 112, 111, 110, 109, 108, 107, 106, 105, 104, 103, 102, 101, 100, 99, 98, 97, 96, 95, 94, 93, 92, 91, 90, 89, 88, 87, 86, 85, 84, 83, 82, 81, 80, 79, 78, 77, 76, 75, 74, 73, 72, 71, 70, 69, 68, 67, 66, 65, 64, 63, 62, 61, 60, 59, 58, 57, 56, 55, 54, 53, 52, 51, 50, 49, 48, 47, 46, 45, 44, 43, 42, 41, 40, 39, 38, 37, 36, 35, 34, 33, 32, 31, 30, 29, 28, 27, 26, 25, 24, 23, 22, 21, 20, 19, 18, 17, 16, 15, 14, 13, 12, 9, 8, 7, 6, 5, 4, 3, 2, 1] (fun j (_ : List Int) => [(19, .d (.int .i64 (j : Nat))), (18, .sl 16700000)]) (fun _ (V : List Int) => [(16700000, .arr 3 1 (V.map (.int .i64)))]) T.length
      (fun j V => V = dualV p u (T.take j) ∧ ∀ r ∈ T.take j, ldG r ≠ 0) one ⟨hdz, by simp⟩ (by refine Wk.auto ?_ ?_ <;> simp [extraK, lk, killL, St.kill, wipeO, wipeS, AV.has, AV.hasL, AO.wipe, List.map_set, updSt, insL, dropS, ins, D.ints, D.nats]) ?_
    rintro R1 j V hN hE1 hj ⟨hV, hnz⟩
    have hVv := dual_vec hp1.1 u (T.take j)
    rw [← hV] at hVv
    have hVl := hVv.1
    by_cases hlt1 : j < T.length
    · have hei := el_intss (xs := T) hlt1
      have hm : T.getD j [] ∈ T := getD_mem hlt1
      have hsv := hTe.vec _ hm
      have hr0 := hsv.2 0
      have hsu := dual_succ (p := p) (u := u) hlt1
      rw [← hV] at hsu
      have hLj : el (Ls.map fun m => D.int .i64 (m : Nat)) j = .int .i64 ((ldG (T.getD j []) : Nat) : Int) := by
        rw [el_nats (by rw [hLs, List.length_map]; exact hlt1), hLs]
        simp [List.getD_eq_getElem?_getD, hlt1]
      have hLl : Ls.length = T.length := by rw [hLs, List.length_map]
      have hrl0 : 0 < (T.getD j []).length := by have := Nat.two_pow_pos u; rw [hsv.1]; omega
      have hlb : ldG (T.getD j []) < 2 ^ u := by
        obtain ⟨_, l2, _⟩ := (ldI_or (T.getD j [])).resolve_left fun h => hTe.nz hm (by rw [h.1]; decide)
        rw [hsv.1] at l2; exact l2
      have her := el_ints (xs := T.getD j []) (i := 0) (by have := Nat.two_pow_pos u; rw [hsv.1]; omega)
      have hex : ldG (T.getD j []) = 0 → t = true := fun h => f2.1 ⟨_, hm, h⟩
      have hnx : ldG (T.getD j []) ≠ 0 → ∀ r ∈ T.take (j + 1), ldG r ≠ 0 := fun h r hr => by
        rw [take_succ [] T j hlt1] at hr
        rcases List.mem_append.1 hr with h1 | h1
        · exact hnz r h1
        · rw [List.mem_singleton.1 h1]; exact h
      have em : (p - (T.getD j []).getD 0 0).tmod p = (p - (T.getD j []).getD 0 0) % p := Int.tmod_eq_emod_of_nonneg (by omega)
      have hset : (V.map (D.int .i64)).set (ldG (T.getD j [])) (.int .i64 ((p - (T.getD j []).getD 0 0) % p)) = (V.set (ldG (T.getD j [])) ((p - (T.getD j []).getD 0 0) % p)).map (D.int .i64) := by rw [List.map_set]
      clear hV hnz hTe hLs f1 f2
      generalize (p - (T.getD j []).getD 0 0) % p = x at *
      generalize hlg : ldG (T.getD j []) = l at *
      generalize hV2 : V.set l x = V2 at *
      generalize (T.getD j []).getD 0 0 = r0 at *
      generalize T.getD j [] = r at *
      by_cases hl0 : l = 0
      · have hb : ((l : Int) == 0) = true := by rw [hl0]; rfl
        rw [hex hl0] at hE1
        simp only [if_true] at hE1
        have hE := hE1
        simp (disch := first | omega | decide +kernel) only [D.ints, D.nats, hei, her, hLj, hb, go_sem, zqa, zqb, zqc, zqd, zqe, ↓reduceIte, reduceCtorEq, zqf, zqg, zqh]
        (repeat' (first | ((first | (refine gsel_split (fun q' => ?_) (fun q' => ?_) <;> (have h' := q') <;> (try simp only [decide_eq_true_eq, decide_eq_false_iff_not, zba, zbb, bne_iff_ne, ne_eq, beq_iff_eq, bne_eq_false_iff_eq, beq_eq_false_iff_ne, zia, zib, zic, zid, zda, zbc, zbd, zbe, gt_iff_lt, ge_iff_le] at h') <;> try (exfalso; omega)) | (have q' := trivial; first | refine hE _ _ ret_ne ?_ | refine hE _ _ exit_ne ?_)) <;> (try simp (disch := first | omega | decide +kernel) only [q', D.ints, D.nats, hei, her, hLj, hb, em, hset, Int.toNat_natCast, go_sem, zqa, zqb, zqc, zqd, zqe, ↓reduceIte, reduceCtorEq, zqf, zqg, zqh]) <;> clear q') | (refine hN _ ?_ ?_ Wk.kk) | (with_reducible refine And.intro ?_ ?_) | (with_reducible omega) | (exact ok_ints) | (exact cells_ints) | (exact no_mem) | (with_reducible exact plain_ints) | (refine le_maxLen ?_; omega) | (refine List.forall_mem_cons.2 ⟨?_, ?_⟩) | (simp only [go_sem, zqc, zqb, List.mem_cons, List.not_mem_nil, forall_eq]; done)))
        all_goals (first | omega | (first | exact ret_sld _ rfl rfl rfl plain_ints rfl | exact ret_sld _ rfl rfl rfl no_mem rfl))
      · have hb : ((l : Int) == 0) = false := by simp; omega
        have hgo := hnx hl0
        simp (disch := first | omega | decide +kernel) only [D.ints, D.nats, hei, her, hLj, hb, go_sem, zqa, zqb, zqc, zqd, zqe, ↓reduceIte, reduceCtorEq, zqf, zqg, zqh]
        (repeat' (first | ((first | (refine gsel_split (fun q' => ?_) (fun q' => ?_) <;> (have h' := q') <;> (try simp only [decide_eq_true_eq, decide_eq_false_iff_not, zba, zbb, bne_iff_ne, ne_eq, beq_iff_eq, bne_eq_false_iff_eq, beq_eq_false_iff_ne, zia, zib, zic, zid, zda, zbc, zbd, zbe, gt_iff_lt, ge_iff_le] at h') <;> try (exfalso; omega)) | (have q' := trivial; first | refine hE _ _ ret_ne ?_ | refine hE _ _ exit_ne ?_)) <;> (try simp (disch := first | omega | decide +kernel) only [q', D.ints, D.nats, hei, her, hLj, hb, em, hset, Int.toNat_natCast, go_sem, zqa, zqb, zqc, zqd, zqe, ↓reduceIte, reduceCtorEq, zqf, zqg, zqh]) <;> clear q') | (refine hN _ ?_ ?_ Wk.kk) | (with_reducible refine And.intro ?_ ?_) | (with_reducible omega) | (refine le_maxLen ?_; omega) | (refine List.forall_mem_cons.2 ⟨?_, ?_⟩)))
        all_goals (first | omega | (refine hN V2 _ hlt1 ⟨hsu.symm, hgo⟩ (by refine Wk.auto ?_ ?_ <;> simp [extraK, lk, killL, St.kill, wipeO, wipeS, AV.has, AV.hasL, AO.wipe, List.map_set, updSt, insL, dropS, ins, D.ints, D.nats, hset]); done))
    · obtain rfl : j = T.length := by omega
      rw [List.take_length] at hV hnz
      have htf : t = false := by
        cases t with
        | false => rfl
        | true => obtain ⟨r, hr, h0⟩ := f2.2 rfl; exact absurd h0 (hnz r hr)
      rw [htf, ← f1, ← hV] at hE1
      simp only [Bool.false_eq_true, if_false] at hE1
      have hE := hE1
      clear hN
      simp (disch := first | omega | decide +kernel) only [D.ints, D.nats, go_sem, zqa, zqb, zqc, zqd, zqe, ↓reduceIte, reduceCtorEq, zqf, zqg, zqh]
      (repeat' (first | ((first | (refine gsel_split (fun q' => ?_) (fun q' => ?_) <;> (have h' := q') <;> (try simp only [decide_eq_true_eq, decide_eq_false_iff_not, zba, zbb, bne_iff_ne, ne_eq, beq_iff_eq, bne_eq_false_iff_eq, beq_eq_false_iff_ne, zia, zib, zic, zid, zda, zbc, zbd, zbe, gt_iff_lt, ge_iff_le] at h') <;> try (exfalso; omega)) | (have q' := trivial; first | refine hE _ _ ret_ne ?_ | refine hE _ _ exit_ne ?_)) <;> (try simp (disch := first | omega | decide +kernel) only [q', D.ints, D.nats, go_sem, zqa, zqb, zqc, zqd, zqe, ↓reduceIte, reduceCtorEq, zqf, zqg, zqh]) <;> clear q') | (refine hN _ ?_ ?_ Wk.kk) | (with_reducible refine And.intro ?_ ?_) | (with_reducible omega) | (refine le_maxLen ?_; omega) | (refine List.forall_mem_cons.2 ⟨?_, ?_⟩)))
      all_goals (first | omega | (first | exact ret_sld _ rfl rfl rfl plain_ints rfl | exact ret_sld _ rfl rfl rfl no_mem rfl))
end
end Abs.Y
