/- What functions of this program compute, as contracts over plain data, with what the proofs need of them. No condition. -/
import Derived.Test.YtcpflbfcglcjfaaV4c
set_option linter.all false
namespace Abs.Y
open Go Go.Proofs Abs
open Nat renaming reduceEqDiff -> Qa, reduceLT -> Qb, reduceAdd -> Qc, reduceMul -> Qd, reduceSub -> Qe, reduceLeDiff -> Qf, reduceSubDiff -> Qg, reduceBEq -> Qh
open Bool renaming not_eq_true' -> Ba, not_eq_false' -> Bb, and_eq_true -> Bc, or_eq_true -> Bd, or_eq_false_iff -> Be
open Int renaming ofNat_lt -> Ia, ofNat_le -> Ib, not_lt -> Ic, not_le -> Ie
open Decidable renaming not_not -> Da
set_option maxRecDepth 100000

set_option maxHeartbeats 4000000 in
theorem law_DerivableClauses : ∀ xs, AllR [isSt [isI64, isSl (isSl isI64)]] xs -> Ctr Try.prog 7 xs false (.d (.bool true)) [] := by
 intro xs hx
 obtain ⟨x0, ys, rfl, h0, hx⟩ := allR_cons hx
 obtain rfl := allR_nil hx
 obtain ⟨v, cs, rfl, hcl, hcx⟩ := r_cnf h0
 have e1 := szS_szF szI_szF cs 1048576 (by omega)
 have s1 := szCnf_ok v cs 1048576 hcl hcx ⟨by omega, by omega⟩
 by_cases hz1 : szS szI cs 1048576 < 0
 . refine Ctr.of (n := 96) (rs := [.tmp 2]) Try.func7 rfl rfl Try.ntmps7 rfl rfl (by kernel_rfl) Try.checked.mixed ?_
   simp (disch := first | omega | decide +kernel) only [go_sem, Qa, Qb, Qc, Qd, Qe, ↓reduceIte, reduceCtorEq, Qf, Qg, Qh]
   (repeat' (first | ((first | (refine gsel_split (fun q' => ?_) (fun q' => ?_) <;> (have h' := q') <;> (try simp only [za1, za2, Ba, Bb, za3, ne_eq, za4, za5, za6, Ia, Ib, Ic, Ie, Da, Bc, Bd, Be, za7, za8] at h')) | (have q' := trivial; first | refine callX_new (s1) rfl (by decide) ?_ | refine callY_new (s1) rfl ?_ | refine hE _ _ ret_ne ?_ | refine hE _ _ exit_ne ?_)) <;> (try simp (disch := first | omega | decide +kernel) only [q', go_sem, Qa, Qb, Qc, Qd, Qe, ↓reduceIte, reduceCtorEq, Qf, Qg, Qh]) <;> clear q') | refine hN _ ?_ ?_ Wk.kk | with_reducible refine And.intro ?_ ?_ | with_reducible omega | exact ok_ints | exact cells_ints | exact no_mem | with_reducible exact plain_ints | (refine le_maxLen ?_; omega) | (refine za9 ⟨?_, ?_⟩) | (simp only [go_sem, Qc, Qb, zb1, zb2, forall_eq]; done)))
 obtain ⟨l1, x1, hc⟩ := sz_cnf (cs := cs) (by omega)
 have hcl' : cs.length <= 4294967296 := by omega
 have hcs : ∀ x ∈ cs, x.length <= 4294967296 := fun x hx => Nat.le_trans (x1 x hx) (by omega)
 have t1 := toCnf_ok v cs hcl' hcs
 have q1 := eqCnf_ok v v cs cs hcl' hcs
 have d1 := toCnfd_ok v cs hcl' hcs
 have c1 := specDer_ok v cs (by omega) hc
 have c2 := implDer_ok v cs (by omega) hc
 have hlen := lenSS_bound (a := cs) (B := 1048576) x1
 have m1 := fun τ => markCnf_ok τ v cs 1 (by omega) (by omega) hcl'
 obtain ⟨hR, hRx⟩ := derI_bd v cs
 generalize derI v cs = R at *
 generalize derB v cs = B at *
 have hRl := lenSS_bound (a := R) (B := 12) hRx
 have hRm : R.length * (12 + 1) <= 4096 * 13 := Nat.mul_le_mul_right 13 hR
 have q0 := eqIntSS_ok R R (by omega) (fun x hx => Nat.le_trans (hRx x hx) (by omega))
 have m3 := fun τ => markIntSS_ok τ R 1 (by omega) (by omega) (by omega)
 have hh := heldIntSS_ok R 1 (by omega) (by omega) (by omega)
 clear e1 hz1 h0
 refine Ctr.of (n := 96) (rs := [.tmp 2]) Try.func7 rfl rfl Try.ntmps7 rfl rfl (by kernel_rfl) Try.checked.mixed ?_
 simp (disch := first | omega | decide +kernel) only [go_sem, Qa, Qb, Qc, Qd, Qe, ↓reduceIte, reduceCtorEq, Qf, Qg, Qh]
 (repeat' (first | ((first | (refine gsel_split (fun q' => ?_) (fun q' => ?_) <;> (have h' := q') <;> (try simp only [za1, za2, Ba, Bb, za3, ne_eq, za4, za5, za6, Ia, Ib, Ic, Ie, Da, Bc, Bd, Be, za7, za8] at h')) | (have q' := trivial; first | refine callX_new (s1) rfl (by decide) ?_ | refine callY_new (s1) rfl ?_ | refine callX_new (d1) rfl (by decide) ?_ | refine callY_new (d1) rfl ?_ | refine callX_new (c1) rfl (by decide) ?_ | refine callY_new (c1) rfl ?_ | refine callX_new (c2) rfl (by decide) ?_ | refine callY_new (c2) rfl ?_ | refine callX_new (q0) rfl (by decide) ?_ | refine callY_new (q0) rfl ?_ | refine callX_new (q1) rfl (by decide) ?_ | refine callY_new (q1) rfl ?_ | refine callX_keep _ (m1 _) ⟨.inl rfl, .inl rfl, trivial⟩ rfl (by simp [dstB]) ?_ | refine callX_keep _ (m3 _) ⟨.inl rfl, .inl rfl, trivial⟩ rfl (by simp [dstB]) ?_ | refine callX_new (hh) rfl (by decide) ?_ | refine callY_new (hh) rfl ?_ | refine callX_shared (t1) rfl (by decide) ?_ | refine callY_shared (t1) rfl ?_ | refine hE _ _ ret_ne ?_ | refine hE _ _ exit_ne ?_)) <;> (try simp (disch := first | omega | decide +kernel) only [q', go_sem, Qa, Qb, Qc, Qd, Qe, ↓reduceIte, reduceCtorEq, Qf, Qg, Qh]) <;> clear q') | refine hN _ ?_ ?_ Wk.kk | with_reducible refine And.intro ?_ ?_ | with_reducible omega | exact ok_ints | exact cells_ints | exact no_mem | with_reducible exact plain_ints | (refine le_maxLen ?_; omega) | (refine za9 ⟨?_, ?_⟩) | (simp only [go_sem, Qc, Qb, zb1, zb2, forall_eq]; done)))
 all_goals (first | exact absurd trivial h' | omega)
end Abs.Y
