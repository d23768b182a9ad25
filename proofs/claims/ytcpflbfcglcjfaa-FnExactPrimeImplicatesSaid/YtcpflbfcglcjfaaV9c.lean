/- What functions of this program compute, as contracts over plain data, with what the proofs need of them. No condition. -/
import Derived.Test.YtcpflbfcglcjfaaV8c
set_option linter.all false
namespace Abs.Y
open Go Go.Proofs Abs
open Nat renaming reduceEqDiff -> Qa, reduceLT -> Qb, reduceAdd -> Qc, reduceMul -> Qd, reduceSub -> Qe, reduceLeDiff -> Qf, reduceSubDiff -> Qg, reduceBEq -> Qh
open Bool renaming not_eq_true' -> Ba, not_eq_false' -> Bb, and_eq_true -> Bc, or_eq_true -> Bd, or_eq_false_iff -> Be
open Int renaming ofNat_lt -> Ia, ofNat_le -> Ib, not_lt -> Ic, not_le -> Ie
open Decidable renaming not_not -> Da
set_option maxRecDepth 100000

theorem specPrime_ok (v : Int) (cs : List (List Int)) (hl : cs.length <= 1048576) (hc : ∀ j, (cs.getD j []).length <= 1048576) :
 Ctr Try.prog 48 [.agg [.int .i64 v, .slice (cs.map D.ints)]] true (.tup [.d (.slice ((minC v cs 6).map D.ints)), .d (.bool (goodN v cs 6))]) [] := by
 have c1 := specMin_ok v cs 6 hl hc
 refine Ctr.of (n := 8) (rs := [.tmp 2, .tmp 3]) Try.func48 rfl rfl Try.ntmps48 rfl rfl (by kernel_rfl) Try.checked.mixed ?_
 simp (disch := first | omega | decide +kernel) only [go_sem, Qa, Qb, Qc, Qd, Qe, ↓reduceIte, reduceCtorEq, Qf, Qg, Qh]
 (repeat' (first | ((first | (refine gsel_split (fun q' => ?_) (fun q' => ?_) <;> (have h' := q') <;> (try simp only [za1, za2, Ba, Bb, za3, ne_eq, za4, za5, za6, Ia, Ib, Ic, Ie, Da, Bc, Bd, Be, za7, za8] at h')) | (have q' := trivial; first | refine callX_shared (c1) rfl (by decide) ?_ | refine callY_shared (c1) rfl ?_ | refine hE _ _ ret_ne ?_ | refine hE _ _ exit_ne ?_)) <;> (try simp (disch := first | omega | decide +kernel) only [q', go_sem, Qa, Qb, Qc, Qd, Qe, ↓reduceIte, reduceCtorEq, Qf, Qg, Qh]) <;> clear q') | refine hN _ ?_ ?_ Wk.kk | with_reducible refine And.intro ?_ ?_ | with_reducible omega | exact ok_ints | exact cells_ints | exact no_mem | with_reducible exact plain_ints | (refine le_maxLen ?_; omega) | (refine za9 ⟨?_, ?_⟩) | (simp only [go_sem, Qc, Qb, zb1, zb2, forall_eq]; done)))
 all_goals exact ret_s2 [] rfl rfl
theorem implPrime_ok (v : Int) (cs : List (List Int)) (hl : cs.length <= 1048576) (hc : ∀ j, (cs.getD j []).length <= 1048576) :
 Ctr Try.prog 49 [.agg [.int .i64 v, .slice (cs.map D.ints)]] false (.tup [.sl 0, .d (.bool (goodN v cs 6))]) [(0, .dp (some (52, 1)) ((minC v cs 6).map D.ints) none)] := by
 have c1 := implMin_ok v cs 6 hl hc
 refine Ctr.of (n := 8) (rs := [.tmp 2, .tmp 3]) Try.func49 rfl rfl Try.ntmps49 rfl rfl (by kernel_rfl) Try.checked.mixed ?_
 simp (disch := first | omega | decide +kernel) only [go_sem, Qa, Qb, Qc, Qd, Qe, ↓reduceIte, reduceCtorEq, Qf, Qg, Qh]
 (repeat' (first | ((first | (refine gsel_split (fun q' => ?_) (fun q' => ?_) <;> (have h' := q') <;> (try simp only [za1, za2, Ba, Bb, za3, ne_eq, za4, za5, za6, Ia, Ib, Ic, Ie, Da, Bc, Bd, Be, za7, za8] at h')) | (have q' := trivial; first | refine callX_new (c1) rfl (by decide) ?_ | refine callY_new (c1) rfl ?_ | refine hE _ _ ret_ne ?_ | refine hE _ _ exit_ne ?_)) <;> (try simp (disch := first | omega | decide +kernel) only [q', go_sem, Qa, Qb, Qc, Qd, Qe, ↓reduceIte, reduceCtorEq, Qf, Qg, Qh]) <;> clear q') | refine hN _ ?_ ?_ Wk.kk | with_reducible refine And.intro ?_ ?_ | with_reducible omega | exact ok_ints | exact cells_ints | exact no_mem | with_reducible exact plain_ints | (refine le_maxLen ?_; omega) | (refine za9 ⟨?_, ?_⟩) | (simp only [go_sem, Qc, Qb, zb1, zb2, forall_eq]; done)))
 all_goals exact ret_dpd 600000 rfl rfl rfl rfl
set_option maxHeartbeats 4000000 in
theorem law_PrimeImplicates : ∀ xs, AllR [isSt [isI64, isSl (isSl isI64)]] xs -> Ctr Try.prog 11 xs false (.d (.bool true)) [] := by
 intro xs hx
 obtain ⟨x0, ys, rfl, h0, hx⟩ := allR_cons hx
 obtain rfl := allR_nil hx
 obtain ⟨v, cs, rfl, hcl, hcx⟩ := r_cnf h0
 have e1 := szS_szF szI_szF cs 1048576 (by omega)
 have s1 := szCnf_ok v cs 1048576 hcl hcx ⟨by omega, by omega⟩
 by_cases hz1 : szS szI cs 1048576 < 0
 . refine Ctr.of (n := 96) (rs := [.tmp 2]) Try.func11 rfl rfl Try.ntmps11 rfl rfl (by kernel_rfl) Try.checked.mixed ?_
   simp (disch := first | omega | decide +kernel) only [go_sem, Qa, Qb, Qc, Qd, Qe, ↓reduceIte, reduceCtorEq, Qf, Qg, Qh]
   (repeat' (first | ((first | (refine gsel_split (fun q' => ?_) (fun q' => ?_) <;> (have h' := q') <;> (try simp only [za1, za2, Ba, Bb, za3, ne_eq, za4, za5, za6, Ia, Ib, Ic, Ie, Da, Bc, Bd, Be, za7, za8] at h')) | (have q' := trivial; first | refine callX_new (s1) rfl (by decide) ?_ | refine callY_new (s1) rfl ?_ | refine hE _ _ ret_ne ?_ | refine hE _ _ exit_ne ?_)) <;> (try simp (disch := first | omega | decide +kernel) only [q', go_sem, Qa, Qb, Qc, Qd, Qe, ↓reduceIte, reduceCtorEq, Qf, Qg, Qh]) <;> clear q') | refine hN _ ?_ ?_ Wk.kk | with_reducible refine And.intro ?_ ?_ | with_reducible omega | exact ok_ints | exact cells_ints | exact no_mem | with_reducible exact plain_ints | (refine le_maxLen ?_; omega) | (refine za9 ⟨?_, ?_⟩) | (simp only [go_sem, Qc, Qb, zb1, zb2, forall_eq]; done)))
 obtain ⟨l1, x1, hc⟩ := sz_cnf (cs := cs) (by omega)
 have hcl' : cs.length <= 4294967296 := by omega
 have hcs : ∀ x ∈ cs, x.length <= 4294967296 := fun x hx => Nat.le_trans (x1 x hx) (by omega)
 have t1 := toCnf_ok v cs hcl' hcs
 have q1 := eqCnf_ok v v cs cs hcl' hcs
 have d1 := toCnfd_ok v cs hcl' hcs
 have c1 := specPrime_ok v cs (by omega) hc
 have c2 := implPrime_ok v cs (by omega) hc
 have hlen := lenSS_bound (a := cs) (B := 1048576) x1
 have m1 := fun τ => markCnf_ok τ v cs 1 (by omega) (by omega) hcl'
 obtain ⟨hR, hRx⟩ := minC_bd v cs 6
 generalize minC v cs 6 = R at *
 generalize goodN v cs 6 = B at *
 have hRl := lenSS_bound (a := R) (B := 12) hRx
 have hRm : R.length * (12 + 1) <= 4096 * 13 := Nat.mul_le_mul_right 13 hR
 have q0 := eqIntSS_ok R R (by omega) (fun x hx => Nat.le_trans (hRx x hx) (by omega))
 have m3 := fun τ => markIntSS_ok τ R 1 (by omega) (by omega) (by omega)
 have hh := heldIntSS_ok R 1 (by omega) (by omega) (by omega)
 clear e1 h0
 refine Ctr.ofK (n := 96) (rs := [.tmp 2]) Try.func11 rfl rfl Try.ntmps11 rfl rfl (by kernel_rfl) Try.checked.mixed ?_
 refine Ok.seq (Ok.go ?_)
 simp (disch := first | omega | decide +kernel) only [go_sem, Qa, Qb, Qc, Qd, Qe, ↓reduceIte, reduceCtorEq, Qf, Qg, Qh]
 refine Ok.seq (Ok.go ?_)
 simp (disch := first | omega | decide +kernel) only [go_sem, Qa, Qb, Qc, Qd, Qe, ↓reduceIte, reduceCtorEq, Qf, Qg, Qh]
 refine Ok.seq (Ok.go ?_)
 simp (disch := first | omega | decide +kernel) only [go_sem, Qa, Qb, Qc, Qd, Qe, ↓reduceIte, reduceCtorEq, Qf, Qg, Qh]
 (repeat' (first | ((first | (refine gsel_split (fun q' => ?_) (fun q' => ?_) <;> (have h' := q') <;> (try simp only [za1, za2, Ba, Bb, za3, ne_eq, za4, za5, za6, Ia, Ib, Ic, Ie, Da, Bc, Bd, Be, za7, za8] at h') <;> try (exfalso; omega)) | (have q' := trivial; first | refine callX_new (s1) rfl (by decide) ?_ | refine callY_new (s1) rfl ?_ | refine hE _ _ ret_ne ?_ | refine hE _ _ exit_ne ?_)) <;> (try simp (disch := first | omega | decide +kernel) only [q', go_sem, Qa, Qb, Qc, Qd, Qe, ↓reduceIte, reduceCtorEq, Qf, Qg, Qh]) <;> clear q') | refine hN _ ?_ ?_ Wk.kk | with_reducible refine And.intro ?_ ?_ | with_reducible omega | exact ok_ints | exact cells_ints | exact no_mem | with_reducible exact plain_ints | (refine le_maxLen ?_; omega) | (refine za9 ⟨?_, ?_⟩) | (simp only [go_sem, Qc, Qb, zb1, zb2, forall_eq]; done)))
 refine Ok.seq (Ok.go ?_)
 simp (disch := first | omega | decide +kernel) only [go_sem, Qa, Qb, Qc, Qd, Qe, ↓reduceIte, reduceCtorEq, Qf, Qg, Qh]
 (repeat' (first | ((first | (refine gsel_split (fun q' => ?_) (fun q' => ?_) <;> (have h' := q') <;> (try simp only [za1, za2, Ba, Bb, za3, ne_eq, za4, za5, za6, Ia, Ib, Ic, Ie, Da, Bc, Bd, Be, za7, za8] at h') <;> try (exfalso; omega)) | (have q' := trivial; first | refine hE _ _ ret_ne ?_ | refine hE _ _ exit_ne ?_)) <;> (try simp (disch := first | omega | decide +kernel) only [q', go_sem, Qa, Qb, Qc, Qd, Qe, ↓reduceIte, reduceCtorEq, Qf, Qg, Qh]) <;> clear q') | refine hN _ ?_ ?_ Wk.kk | with_reducible refine And.intro ?_ ?_ | with_reducible omega | exact ok_ints | exact cells_ints | exact no_mem | with_reducible exact plain_ints | (refine le_maxLen ?_; omega) | (refine za9 ⟨?_, ?_⟩) | (simp only [go_sem, Qc, Qb, zb1, zb2, forall_eq]; done)))
 clear hz1
 refine Ok.seq (Ok.go ?_)
 simp (disch := first | omega | decide +kernel) only [go_sem, Qa, Qb, Qc, Qd, Qe, ↓reduceIte, reduceCtorEq, Qf, Qg, Qh]
 (repeat' (first | ((first | (refine gsel_split (fun q' => ?_) (fun q' => ?_) <;> (have h' := q') <;> (try simp only [za1, za2, Ba, Bb, za3, ne_eq, za4, za5, za6, Ia, Ib, Ic, Ie, Da, Bc, Bd, Be, za7, za8] at h') <;> try (exfalso; omega)) | (have q' := trivial; first | refine callX_shared (t1) rfl (by decide) ?_ | refine callY_shared (t1) rfl ?_ | refine callX_shared (c1) rfl (by decide) ?_ | refine callY_shared (c1) rfl ?_ | refine hE _ _ ret_ne ?_ | refine hE _ _ exit_ne ?_)) <;> (try simp (disch := first | omega | decide +kernel) only [q', go_sem, Qa, Qb, Qc, Qd, Qe, ↓reduceIte, reduceCtorEq, Qf, Qg, Qh]) <;> clear q') | refine hN _ ?_ ?_ Wk.kk | with_reducible refine And.intro ?_ ?_ | with_reducible omega | exact ok_ints | exact cells_ints | exact no_mem | with_reducible exact plain_ints | (refine le_maxLen ?_; omega) | (refine za9 ⟨?_, ?_⟩) | (simp only [go_sem, Qc, Qb, zb1, zb2, forall_eq]; done)))
 refine Ok.go ?_
 simp (disch := first | omega | decide +kernel) only [go_sem, Qa, Qb, Qc, Qd, Qe, ↓reduceIte, reduceCtorEq, Qf, Qg, Qh]
 (repeat' (first | ((first | (refine gsel_split (fun q' => ?_) (fun q' => ?_) <;> (have h' := q') <;> (try simp only [za1, za2, Ba, Bb, za3, ne_eq, za4, za5, za6, Ia, Ib, Ic, Ie, Da, Bc, Bd, Be, za7, za8] at h')) | (have q' := trivial; first | refine callX_new (d1) rfl (by decide) ?_ | refine callY_new (d1) rfl ?_ | refine callX_new (c2) rfl (by decide) ?_ | refine callY_new (c2) rfl ?_ | refine callX_new (q0) rfl (by decide) ?_ | refine callY_new (q0) rfl ?_ | refine callX_new (q1) rfl (by decide) ?_ | refine callY_new (q1) rfl ?_ | refine callX_keep _ (m1 _) ⟨.inl rfl, .inl rfl, trivial⟩ rfl (by simp [dstB]) ?_ | refine callX_keep _ (m3 _) ⟨.inl rfl, .inl rfl, trivial⟩ rfl (by simp [dstB]) ?_ | refine callX_new (hh) rfl (by decide) ?_ | refine callY_new (hh) rfl ?_ | refine callX_shared (t1) rfl (by decide) ?_ | refine callY_shared (t1) rfl ?_ | refine hE _ _ ret_ne ?_ | refine hE _ _ exit_ne ?_)) <;> (try simp (disch := first | omega | decide +kernel) only [q', go_sem, Qa, Qb, Qc, Qd, Qe, ↓reduceIte, reduceCtorEq, Qf, Qg, Qh]) <;> clear q') | refine hN _ ?_ ?_ Wk.kk | with_reducible refine And.intro ?_ ?_ | with_reducible omega | exact ok_ints | exact cells_ints | exact no_mem | with_reducible exact plain_ints | (refine le_maxLen ?_; omega) | (refine za9 ⟨?_, ?_⟩) | (simp only [go_sem, Qc, Qb, zb1, zb2, forall_eq]; done)))
 all_goals (first | exact absurd trivial h' | omega)
end Abs.Y
