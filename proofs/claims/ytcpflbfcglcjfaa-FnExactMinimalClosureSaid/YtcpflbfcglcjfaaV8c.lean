/- What functions of this program compute, as contracts over plain data, with what the proofs need of them. No condition. -/
import Derived.Test.YtcpflbfcglcjfaaV7c
import Derived.Test.YtcpflbfcglcjfaaV4c
set_option linter.all false
namespace Abs.Y
open Go Go.Proofs Abs
open Nat renaming reduceEqDiff -> Qa, reduceLT -> Qb, reduceAdd -> Qc, reduceMul -> Qd, reduceSub -> Qe, reduceLeDiff -> Qf, reduceSubDiff -> Qg, reduceBEq -> Qh
open Bool renaming not_eq_true' -> Ba, not_eq_false' -> Bb, and_eq_true -> Bc, or_eq_true -> Bd, or_eq_false_iff -> Be
open Int renaming ofNat_lt -> Ia, ofNat_le -> Ib, not_lt -> Ic, not_le -> Ie
open Decidable renaming not_not -> Da
set_option maxRecDepth 100000

theorem minS_bd (l : List (List Int)) : ∀ i, i <= l.length -> (minS l i).length <= i ∧ ∀ x ∈ minS l i, x ∈ l
 | 0, _ => ⟨Nat.le_refl _, fun x hx => nomatch hx⟩
 | i + 1, hi => by
   obtain ⟨h1, h2⟩ := minS_bd l i (by omega)
   refine ⟨?_, ?_⟩
   . rw [minS]; split
     . omega
     . rw [List.length_append, List.length_singleton]; omega
   . rw [minS]; split
     . exact h2
     . intro x hx
       rcases List.mem_append.1 hx with hx | hx
       . exact h2 x hx
       . obtain rfl := List.mem_singleton.1 hx
         exact getD_mem (by omega)
theorem minC_bd (v : Int) (cs : List (List Int)) (w : Int) : (minC v cs w).length <= 4096 ∧ ∀ x ∈ minC v cs w, x.length <= 12 := by
 unfold minC
 split
 . rename_i h
   obtain ⟨g1, _⟩ := good6 h
   have := closV_len (w := w.toNat) g1
   have h2 := List.length_filter_le (fun c => !((closV cs w.toNat).any fun d => decide (d.length < c.length) && subI d c)) (closV cs w.toNat)
   refine ⟨by unfold minI; omega, fun x hx => g6_len (closV_g6 g1 x (List.mem_filter.1 hx).1)⟩
 . exact ⟨by simp, fun x hx => nomatch hx⟩
theorem specMin_ok (v : Int) (cs : List (List Int)) (w : Int) (hl : cs.length <= 1048576) (hc : ∀ j, (cs.getD j []).length <= 1048576) :
 Ctr Try.prog 46 [.agg [.int .i64 v, .slice (cs.map D.ints)], .int .i64 w] true (.tup [.d (.slice ((minC v cs w).map D.ints)), .d (.bool (goodN v cs w))]) [] := by
 have c1 := l10Good_ok v cs (by omega) fun j => by have := hc j; omega
 have c2 := l10Width_ok w
 unfold minC
 cases h : goodN v cs w with
 | false =>
   rw [if_neg (by decide)]
   have h' := h
   unfold goodN at h'
   refine Ctr.of (n := 20) (rs := [.tmp 4, .tmp 5]) Try.func46 rfl rfl Try.ntmps46 rfl rfl (by kernel_rfl) Try.checked.mixed ?_
   by_cases h1 : (okCnf v cs && decide (v <= 6)) = true
   . rw [h1, Bool.true_and] at h'
     rw [Bool.and_comm] at h1
     rw [h1] at c1
     rw [h'] at c2
     simp (disch := first | omega | decide +kernel) only [List.map_nil, go_sem, Qa, Qb, Qc, Qd, Qe, ↓reduceIte, reduceCtorEq, Qf, Qg, Qh]
     (repeat' (first | ((first | (refine gsel_split (fun q' => ?_) (fun q' => ?_) <;> (have h' := q') <;> (try simp only [za1, za2, Ba, Bb, za3, ne_eq, za4, za5, za6, Ia, Ib, Ic, Ie, Da, Bc, Bd, Be, za7, za8] at h')) | (have q' := trivial; first | refine callX_new (c1) rfl (by decide) ?_ | refine callY_new (c1) rfl ?_ | refine callX_new (c2) rfl (by decide) ?_ | refine callY_new (c2) rfl ?_ | refine hE _ _ ret_ne ?_ | refine hE _ _ exit_ne ?_)) <;> (try simp (disch := first | omega | decide +kernel) only [q', List.map_nil, go_sem, Qa, Qb, Qc, Qd, Qe, ↓reduceIte, reduceCtorEq, Qf, Qg, Qh]) <;> clear q') | refine hN _ ?_ ?_ Wk.kk | with_reducible refine And.intro ?_ ?_ | with_reducible omega | exact ok_ints | exact cells_ints | exact no_mem | with_reducible exact plain_ints | (refine le_maxLen ?_; omega) | (refine za9 ⟨?_, ?_⟩) | (simp only [go_sem, Qc, Qb, zb1, zb2, forall_eq]; done)))
     all_goals exact ret_s2 [14] rfl rfl
   . rw [Bool.not_eq_true, Bool.and_comm] at h1
     rw [h1] at c1
     simp (disch := first | omega | decide +kernel) only [List.map_nil, go_sem, Qa, Qb, Qc, Qd, Qe, ↓reduceIte, reduceCtorEq, Qf, Qg, Qh]
     (repeat' (first | ((first | (refine gsel_split (fun q' => ?_) (fun q' => ?_) <;> (have h' := q') <;> (try simp only [za1, za2, Ba, Bb, za3, ne_eq, za4, za5, za6, Ia, Ib, Ic, Ie, Da, Bc, Bd, Be, za7, za8] at h')) | (have q' := trivial; first | refine callX_new (c1) rfl (by decide) ?_ | refine callY_new (c1) rfl ?_ | refine callX_new (c2) rfl (by decide) ?_ | refine callY_new (c2) rfl ?_ | refine hE _ _ ret_ne ?_ | refine hE _ _ exit_ne ?_)) <;> (try simp (disch := first | omega | decide +kernel) only [q', List.map_nil, go_sem, Qa, Qb, Qc, Qd, Qe, ↓reduceIte, reduceCtorEq, Qf, Qg, Qh]) <;> clear q') | refine hN _ ?_ ?_ Wk.kk | with_reducible refine And.intro ?_ ?_ | with_reducible omega | exact ok_ints | exact cells_ints | exact no_mem | with_reducible exact plain_ints | (refine le_maxLen ?_; omega) | (refine za9 ⟨?_, ?_⟩) | (simp only [go_sem, Qc, Qb, zb1, zb2, forall_eq]; done)))
     all_goals exact ret_s2 [14] rfl rfl
 | true =>
   rw [if_pos rfl]
   obtain ⟨g1, g2, g3, g4⟩ := good6 h
   have hb := good_below h
   have h' := h
   rw [goodN, Bc, Bool.and_comm (okCnf v cs)] at h'
   rw [h'.1] at c1
   rw [h'.2] at c2
   obtain ⟨w, rfl⟩ : ∃ n : Nat, w = n := ⟨w.toNat, by omega⟩
   obtain ⟨v, rfl⟩ : ∃ n : Nat, v = n := ⟨v.toNat, by omega⟩
   rw [Int.toNat_natCast] at *
   have c3 := l10Closure_ok g1 hb g2 (by omega) (show w <= 6 by omega)
   refine Ctr.of (n := 20) (rs := [.tmp 4, .tmp 5]) Try.func46 rfl rfl Try.ntmps46 rfl rfl (by kernel_rfl) Try.checked.mixed ?_
   simp (disch := first | omega | decide +kernel) only [go_sem, Qa, Qb, Qc, Qd, Qe, ↓reduceIte, reduceCtorEq, Qf, Qg, Qh]
   (repeat' (first | ((first | (refine gsel_split (fun q' => ?_) (fun q' => ?_) <;> (have h' := q') <;> (try simp only [za1, za2, Ba, Bb, za3, ne_eq, za4, za5, za6, Ia, Ib, Ic, Ie, Da, Bc, Bd, Be, za7, za8] at h')) | (have q' := trivial; first | refine callX_new (c1) rfl (by decide) ?_ | refine callY_new (c1) rfl ?_ | refine callX_new (c2) rfl (by decide) ?_ | refine callY_new (c2) rfl ?_ | refine hE _ _ ret_ne ?_ | refine hE _ _ exit_ne ?_)) <;> (try simp (disch := first | omega | decide +kernel) only [q', go_sem, Qa, Qb, Qc, Qd, Qe, ↓reduceIte, reduceCtorEq, Qf, Qg, Qh]) <;> clear q') | refine hN _ ?_ ?_ Wk.kk | with_reducible refine And.intro ?_ ?_ | with_reducible omega | exact ok_ints | exact cells_ints | exact no_mem | with_reducible exact plain_ints | (refine le_maxLen ?_; omega) | (refine za9 ⟨?_, ?_⟩) | (simp only [go_sem, Qc, Qb, zb1, zb2, forall_eq]; done)))
   refine callX_rel [] [] [] c3 ⟨.inl rfl, .inl rfl, trivial⟩ trivial (by simp [namesI, keysO]) (by simp [dstB]) ?_
   rintro _ _ ⟨W, k, hF, rfl, rfl⟩
   refine ⟨by simp [namesOK, keysO], ?_⟩
   have hso := hF.so
   obtain ⟨a1, a2, a3, a4, a5, a6⟩ := W
   simp only at hso
   subst hso
   have hcl := closV_len (w := w) g1
   have hcg := closV_g6 (w := w) g1
   have hcs := closV_srt cs w
   generalize closV cs w = A at *
   have hms := minS_bd A
   have c4 := l10Minimal_ok A (by omega) (fun x hx => by have := g6_len (hcg x hx); omega) hms
   rw [minS_all hcs hcg] at c4
   simp (disch := first | omega | decide +kernel) only [D.wrk, go_sem, Qa, Qb, Qc, Qd, Qe, ↓reduceIte, reduceCtorEq, Qf, Qg, Qh]
   (repeat' (first | ((first | (refine gsel_split (fun q' => ?_) (fun q' => ?_) <;> (have h' := q') <;> (try simp only [za1, za2, Ba, Bb, za3, ne_eq, za4, za5, za6, Ia, Ib, Ic, Ie, Da, Bc, Bd, Be, za7, za8] at h')) | (have q' := trivial; first | refine callX_shared (c4) rfl (by decide) ?_ | refine callY_shared (c4) rfl ?_ | refine hE _ _ ret_ne ?_ | refine hE _ _ exit_ne ?_)) <;> (try simp (disch := first | omega | decide +kernel) only [q', D.wrk, go_sem, Qa, Qb, Qc, Qd, Qe, ↓reduceIte, reduceCtorEq, Qf, Qg, Qh]) <;> clear q') | refine hN _ ?_ ?_ Wk.kk | with_reducible refine And.intro ?_ ?_ | with_reducible omega | exact ok_ints | exact cells_ints | exact no_mem | with_reducible exact plain_ints | (refine le_maxLen ?_; omega) | (refine za9 ⟨?_, ?_⟩) | (simp only [go_sem, Qc, Qb, zb1, zb2, forall_eq]; done)))
   all_goals exact ret_s2 [] rfl rfl
set_option maxHeartbeats 4000000 in
theorem law_MinimalClosure : ∀ xs, AllR [isSt [isI64, isSl (isSl isI64)], isI64] xs -> Ctr Try.prog 10 xs false (.d (.bool true)) [] := by
 intro xs hx
 obtain ⟨x0, ys, rfl, h0, hx⟩ := allR_cons hx
 obtain ⟨x1, ys, rfl, h1, hx⟩ := allR_cons hx
 obtain rfl := allR_nil hx
 obtain ⟨v, cs, rfl, hcl, hcx⟩ := r_cnf h0
 obtain ⟨w, rfl, _⟩ := h1
 have e1 := szS_szF szI_szF cs 1048576 (by omega)
 have s1 := szCnf_ok v cs 1048576 hcl hcx ⟨by omega, by omega⟩
 by_cases hz1 : szS szI cs 1048576 < 0
 . refine Ctr.of (n := 101) (rs := [.tmp 4]) Try.func10 rfl rfl Try.ntmps10 rfl rfl (by kernel_rfl) Try.checked.mixed ?_
   simp (disch := first | omega | decide +kernel) only [go_sem, Qa, Qb, Qc, Qd, Qe, ↓reduceIte, reduceCtorEq, Qf, Qg, Qh]
   (repeat' (first | ((first | (refine gsel_split (fun q' => ?_) (fun q' => ?_) <;> (have h' := q') <;> (try simp only [za1, za2, Ba, Bb, za3, ne_eq, za4, za5, za6, Ia, Ib, Ic, Ie, Da, Bc, Bd, Be, za7, za8] at h')) | (have q' := trivial; first | refine callX_new (s1) rfl (by decide) ?_ | refine callY_new (s1) rfl ?_ | refine hE _ _ ret_ne ?_ | refine hE _ _ exit_ne ?_)) <;> (try simp (disch := first | omega | decide +kernel) only [q', go_sem, Qa, Qb, Qc, Qd, Qe, ↓reduceIte, reduceCtorEq, Qf, Qg, Qh]) <;> clear q') | refine hN _ ?_ ?_ Wk.kk | with_reducible refine And.intro ?_ ?_ | with_reducible omega | exact ok_ints | exact cells_ints | exact no_mem | with_reducible exact plain_ints | (refine le_maxLen ?_; omega) | (refine za9 ⟨?_, ?_⟩) | (simp only [go_sem, Qc, Qb, zb1, zb2, forall_eq]; done)))
 obtain ⟨l1, x1, hc⟩ := sz_cnf (cs := cs) (by omega)
 have hcl' : cs.length <= 4294967296 := by omega
 have hcs : ∀ x ∈ cs, x.length <= 4294967296 := fun x hx => Nat.le_trans (x1 x hx) (by omega)
 have t1 := toCnf_ok v cs hcl' hcs
 have q1 := eqCnf_ok v v cs cs hcl' hcs
 have d1 := toCnfd_ok v cs hcl' hcs
 have c1 := specMin_ok v cs w (by omega) hc
 have c2 := implMin_ok v cs w (by omega) hc
 have hlen := lenSS_bound (a := cs) (B := 1048576) x1
 have m1 := fun τ => markCnf_ok τ v cs 1 (by omega) (by omega) hcl'
 obtain ⟨hR, hRx⟩ := minC_bd v cs w
 generalize minC v cs w = R at *
 generalize goodN v cs w = B at *
 have hRl := lenSS_bound (a := R) (B := 12) hRx
 have hRm : R.length * (12 + 1) <= 4096 * 13 := Nat.mul_le_mul_right 13 hR
 have q0 := eqIntSS_ok R R (by omega) (fun x hx => Nat.le_trans (hRx x hx) (by omega))
 have m3 := fun τ => markIntSS_ok τ R 1 (by omega) (by omega) (by omega)
 have hh := heldIntSS_ok R 1 (by omega) (by omega) (by omega)
 clear e1 h0
 refine Ctr.ofK (n := 101) (rs := [.tmp 4]) Try.func10 rfl rfl Try.ntmps10 rfl rfl (by kernel_rfl) Try.checked.mixed ?_
 refine Ok.seq (Ok.go ?_)
 simp (disch := first | omega | decide +kernel) only [go_sem, Qa, Qb, Qc, Qd, Qe, ↓reduceIte, reduceCtorEq, Qf, Qg, Qh]
 refine Ok.seq (Ok.go ?_)
 simp (disch := first | omega | decide +kernel) only [go_sem, Qa, Qb, Qc, Qd, Qe, ↓reduceIte, reduceCtorEq, Qf, Qg, Qh]
 refine Ok.seq (Ok.go ?_)
 simp (disch := first | omega | decide +kernel) only [go_sem, Qa, Qb, Qc, Qd, Qe, ↓reduceIte, reduceCtorEq, Qf, Qg, Qh]
 (repeat' (first | ((first | (refine gsel_split (fun q' => ?_) (fun q' => ?_) <;> (have h' := q') <;> (try simp only [za1, za2, Ba, Bb, za3, ne_eq, za4, za5, za6, Ia, Ib, Ic, Ie, Da, Bc, Bd, Be, za7, za8] at h') <;> try (exfalso; omega)) | (have q' := trivial; first | refine callX_new (s1) rfl (by decide) ?_ | refine callY_new (s1) rfl ?_ | refine hE _ _ ret_ne ?_ | refine hE _ _ exit_ne ?_)) <;> (try simp (disch := first | omega | decide +kernel) only [q', go_sem, Qa, Qb, Qc, Qd, Qe, ↓reduceIte, reduceCtorEq, Qf, Qg, Qh]) <;> clear q') | refine hN _ ?_ ?_ Wk.kk | with_reducible refine And.intro ?_ ?_ | with_reducible omega | exact ok_ints | exact cells_ints | exact no_mem | with_reducible exact plain_ints | (refine le_maxLen ?_; omega) | (refine za9 ⟨?_, ?_⟩) | (simp only [go_sem, Qc, Qb, zb1, zb2, forall_eq]; done)))
 refine Ok.seq (Ok.go ?_)
 simp (disch := first | omega | decide +kernel) only [go_sem, Qa, Qb, Qc, Qd, Qe, ↓reduceIte, reduceCtorEq, Qf, Qg, Qh]
 (repeat' (first | ((first | (refine gsel_split (fun q' => ?_) (fun q' => ?_) <;> (have h' := q') <;> (try simp only [za1, za2, Ba, Bb, za3, ne_eq, za4, za5, za6, Ia, Ib, Ic, Ie, Da, Bc, Bd, Be, za7, za8] at h') <;> try (exfalso; omega)) | (have q' := trivial; first | refine hE _ _ ret_ne ?_ | refine hE _ _ exit_ne ?_)) <;> (try simp (disch := first | omega | decide +kernel) only [q', go_sem, Qa, Qb, Qc, Qd, Qe, ↓reduceIte, reduceCtorEq, Qf, Qg, Qh]) <;> clear q') | refine hN _ ?_ ?_ Wk.kk | with_reducible refine And.intro ?_ ?_ | with_reducible omega | exact ok_ints | exact cells_ints | exact no_mem | with_reducible exact plain_ints | (refine le_maxLen ?_; omega) | (refine za9 ⟨?_, ?_⟩) | (simp only [go_sem, Qc, Qb, zb1, zb2, forall_eq]; done)))
 clear hz1
 refine Ok.seq (Ok.go ?_)
 simp (disch := first | omega | decide +kernel) only [go_sem, Qa, Qb, Qc, Qd, Qe, ↓reduceIte, reduceCtorEq, Qf, Qg, Qh]
 (repeat' (first | ((first | (refine gsel_split (fun q' => ?_) (fun q' => ?_) <;> (have h' := q') <;> (try simp only [za1, za2, Ba, Bb, za3, ne_eq, za4, za5, za6, Ia, Ib, Ic, Ie, Da, Bc, Bd, Be, za7, za8] at h') <;> try (exfalso; omega)) | (have q' := trivial; first | refine callX_shared (t1) rfl (by decide) ?_ | refine callY_shared (t1) rfl ?_ | refine callX_shared (c1) rfl (by decide) ?_ | refine callY_shared (c1) rfl ?_ | refine hE _ _ ret_ne ?_ | refine hE _ _ exit_ne ?_)) <;> (try simp (disch := first | omega | decide +kernel) only [q', go_sem, Qa, Qb, Qc, Qd, Qe, ↓reduceIte, reduceCtorEq, Qf, Qg, Qh]) <;> clear q') | refine hN _ ?_ ?_ Wk.kk | with_reducible refine And.intro ?_ ?_ | with_reducible omega | exact ok_ints | exact cells_ints | exact no_mem | with_reducible exact plain_ints | (refine le_maxLen ?_; omega) | (refine za9 ⟨?_, ?_⟩) | (simp only [go_sem, Qc, Qb, zb1, zb2, forall_eq]; done)))
 refine Ok.go ?_
 simp (disch := first | omega | decide +kernel) only [go_sem, Qa, Qb, Qc, Qd, Qe, ↓reduceIte, reduceCtorEq, Qf, Qg, Qh]
 (repeat' (first | ((first | (refine gsel_split (fun q' => ?_) (fun q' => ?_) <;> (have h' := q') <;> (try simp only [za1, za2, Ba, Bb, za3, ne_eq, za4, za5, za6, Ia, Ib, Ic, Ie, Da, Bc, Bd, Be, za7, za8] at h')) | (have q' := trivial; first | refine callX_new (d1) rfl (by decide) ?_ | refine callY_new (d1) rfl ?_ | refine callX_new (c2) rfl (by decide) ?_ | refine callY_new (c2) rfl ?_ | refine callX_new (q0) rfl (by decide) ?_ | refine callY_new (q0) rfl ?_ | refine callX_new (q1) rfl (by decide) ?_ | refine callY_new (q1) rfl ?_ | refine callX_keep _ (m1 _) ⟨.inl rfl, .inl rfl, trivial⟩ rfl (by simp [dstB]) ?_ | refine callX_keep _ (m3 _) ⟨.inl rfl, .inl rfl, trivial⟩ rfl (by simp [dstB]) ?_ | refine callX_new (hh) rfl (by decide) ?_ | refine callY_new (hh) rfl ?_ | refine callX_shared (t1) rfl (by decide) ?_ | refine callY_shared (t1) rfl ?_ | refine hE _ _ ret_ne ?_ | refine hE _ _ exit_ne ?_)) <;> (try simp (disch := first | omega | decide +kernel) only [q', go_sem, Qa, Qb, Qc, Qd, Qe, ↓reduceIte, reduceCtorEq, Qf, Qg, Qh]) <;> clear q') | refine hN _ ?_ ?_ Wk.kk | with_reducible refine And.intro ?_ ?_ | with_reducible omega | exact ok_ints | exact cells_ints | exact no_mem | with_reducible exact plain_ints | (refine le_maxLen ?_; omega) | (refine za9 ⟨?_, ?_⟩) | (simp only [go_sem, Qc, Qb, zb1, zb2, forall_eq]; done)))
 all_goals (first | exact absurd trivial h' | omega)
end Abs.Y
