/- What functions of this program compute, as contracts over plain data, with what the proofs need of them. No condition. -/
import Derived.Test.YtcpflbfcglcjfaaE16
import Derived.Test.YtcpflbfcglcjfaaQ12
set_option linter.all false
namespace Abs.Y
open Go Go.Proofs Abs
open Nat renaming reduceEqDiff -> Qa, reduceLT -> Qb, reduceAdd -> Qc, reduceMul -> Qd, reduceSub -> Qe, reduceLeDiff -> Qf, reduceSubDiff -> Qg, reduceBEq -> Qh
open Bool renaming not_eq_true' -> Ba, not_eq_false' -> Bb, and_eq_true -> Bc, or_eq_true -> Bd, or_eq_false_iff -> Be
open Int renaming ofNat_lt -> Ia, ofNat_le -> Ib, not_lt -> Ic, not_le -> Ie
open Decidable renaming not_not -> Da
set_option maxRecDepth 100000

theorem sz_cnfE {cs : List (List Int)} (h : ¬ szS szI cs 1048576 < 0) : cs.length <= 1048576 ∧ (∀ x ∈ cs, x.length <= 1048576) ∧ ∀ j, (cs.getD j []).length <= 1048576 := by
 have l1 := szS_len (f := szI) (a := cs) (left := 1048576) (by omega)
 have x1 : ∀ x ∈ cs, x.length <= 1048576 := fun x hx => by
  obtain ⟨y, h3, h4, h5⟩ := szS_each szI_szF (a := cs) (left := 1048576) (by omega) x hx
  have := szI_len h5; omega
 refine ⟨by omega, x1, fun j => ?_⟩
 by_cases hj : j < cs.length
 . exact x1 _ (getD_mem hj)
 . rw [List.getD_eq_getElem?_getD, List.getElem?_eq_none (by omega)]; simp
theorem heldCnf_ok (v : Int) (a : List (List Int)) (k : Int) (h0 : 0 <= k) (h1 : k + lenSS a <= 9000000000000000000) (hl : a.length <= 4294967296) :
 Ctr Try.prog 27 [.agg [.int .i64 v, .slice ((cntSS a k).map D.ints)], .int .i64 k] false (.d (.int .i64 (k + lenSS a))) [] := by
 have c1 := heldIntSS_ok a k h0 h1 hl
 refine Ctr.of (n := 12) (rs := [.tmp 4]) Try.func27 rfl rfl Try.ntmps27 rfl rfl (by kernel_rfl) Try.checked.mixed ?_
 simp (disch := first | omega | decide +kernel) only [go_sem, Qa, Qb, Qc, Qd, Qe, ↓reduceIte, reduceCtorEq, Qf, Qg, Qh]
 (repeat' (first | ((first | (refine gsel_split (fun q' => ?_) (fun q' => ?_) <;> (have h' := q') <;> (try simp only [za1, za2, Ba, Bb, za3, ne_eq, za4, za5, za6, Ia, Ib, Ic, Ie, Da, Bc, Bd, Be, za7, za8] at h')) | (have q' := trivial; first | refine callX_new (c1) rfl (by decide) ?_ | refine callY_new (c1) rfl ?_ | refine hE _ _ ret_ne ?_ | refine hE _ _ exit_ne ?_)) <;> (try simp (disch := first | omega | decide +kernel) only [q', go_sem, Qa, Qb, Qc, Qd, Qe, ↓reduceIte, reduceCtorEq, Qf, Qg, Qh]) <;> clear q') | refine hN _ ?_ ?_ Wk.kk | with_reducible refine And.intro ?_ ?_ | with_reducible omega | exact ok_ints | exact cells_ints | exact no_mem | with_reducible exact plain_ints | (refine le_maxLen ?_; omega) | (refine za9 ⟨?_, ?_⟩) | (simp only [go_sem, Qc, Qb, zb1, zb2, forall_eq]; done)))
 all_goals (first | (exfalso; omega) | omega)
theorem markIntSS0_ok (k : Int) : Ctr Try.prog 31 [.slice [], .int .i64 k] false (.d (.int .i64 k)) [] := by
 refine Ctr.of (n := 19) (rs := [.tmp 4]) Try.func31 rfl rfl Try.ntmps31 rfl rfl (by kernel_rfl) Try.checked.mixed ?_
 simp (disch := first | omega | decide +kernel) only [go_sem, Qa, Qb, Qc, Qd, Qe, ↓reduceIte, reduceCtorEq, Qf, Qg, Qh]
 refine Ok.loopN [17, 16, 15, 14, 13, 12, 11, 10, 9, 8, 7, 6, 5, 3, 2, 1] (fun i _ => [(5, .d (.int .i64 (i : Nat))), (1, .d (.int .i64 k))]) (fun _ (_ : Unit) => []) 0 (fun i _ => True) () trivial (Wk.kk) ?_
 rintro R i p hN hE hi _
 obtain rfl : i = 0 := by omega
 simp (disch := first | omega | decide +kernel) only [List.length_nil, go_sem, Qa, Qb, Qc, Qd, Qe, ↓reduceIte, reduceCtorEq, Qf, Qg, Qh]
 (repeat' (first | ((first | (refine gsel_split (fun q' => ?_) (fun q' => ?_) <;> (have h' := q') <;> (try simp only [za1, za2, Ba, Bb, za3, ne_eq, za4, za5, za6, Ia, Ib, Ic, Ie, Da, Bc, Bd, Be, za7, za8] at h') <;> try (exfalso; omega)) | (have q' := trivial; first | refine hE _ _ ret_ne ?_ | refine hE _ _ exit_ne ?_)) <;> (try simp (disch := first | omega | decide +kernel) only [q', List.length_nil, go_sem, Qa, Qb, Qc, Qd, Qe, ↓reduceIte, reduceCtorEq, Qf, Qg, Qh]) <;> clear q') | refine hN _ ?_ ?_ Wk.kk | with_reducible refine And.intro ?_ ?_ | with_reducible omega | exact ok_ints | exact cells_ints | exact no_mem | with_reducible exact plain_ints | (refine le_maxLen ?_; omega) | (refine za9 ⟨?_, ?_⟩) | (simp only [go_sem, Qc, Qb, zb1, zb2, forall_eq]; done)))
theorem markCnf0_ok (v k : Int) : Ctr Try.prog 26 [.agg [.int .i64 v, .slice []], .int .i64 k] false (.d (.int .i64 k)) [] := by
 have c1 := markIntSS0_ok k
 refine Ctr.of (n := 10) (rs := [.tmp 4]) Try.func26 rfl rfl Try.ntmps26 rfl rfl (by kernel_rfl) Try.checked.mixed ?_
 simp (disch := first | omega | decide +kernel) only [go_sem, Qa, Qb, Qc, Qd, Qe, ↓reduceIte, reduceCtorEq, Qf, Qg, Qh]
 (repeat' (first | ((first | (refine gsel_split (fun q' => ?_) (fun q' => ?_) <;> (have h' := q') <;> (try simp only [za1, za2, Ba, Bb, za3, ne_eq, za4, za5, za6, Ia, Ib, Ic, Ie, Da, Bc, Bd, Be, za7, za8] at h')) | (have q' := trivial; first | refine callX_new (c1) rfl (by decide) ?_ | refine callY_new (c1) rfl ?_ | refine hE _ _ ret_ne ?_ | refine hE _ _ exit_ne ?_)) <;> (try simp (disch := first | omega | decide +kernel) only [q', go_sem, Qa, Qb, Qc, Qd, Qe, ↓reduceIte, reduceCtorEq, Qf, Qg, Qh]) <;> clear q') | refine hN _ ?_ ?_ Wk.kk | with_reducible refine And.intro ?_ ?_ | with_reducible omega | exact ok_ints | exact cells_ints | exact no_mem | with_reducible exact plain_ints | (refine le_maxLen ?_; omega) | (refine za9 ⟨?_, ?_⟩) | (simp only [go_sem, Qc, Qb, zb1, zb2, forall_eq]; done)))
set_option maxHeartbeats 8000000 in
theorem law_EliminateVar : ∀ xs, AllR [isSt [isI64, isSl (isSl isI64)], isI64] xs -> Ctr Try.prog 5 xs false (.d (.bool true)) [] := by
 intro xs hx
 obtain ⟨x0, ys, rfl, h0, hx⟩ := allR_cons hx
 obtain ⟨x1, ys, rfl, h1, hx⟩ := allR_cons hx
 obtain rfl := allR_nil hx
 obtain ⟨v, cs, rfl, hcl, hcx⟩ := r_cnf h0
 obtain ⟨w, rfl, _⟩ := h1
 have e1 := szS_szF szI_szF cs 1048576 (by omega)
 have s1 := szCnf_ok v cs 1048576 hcl hcx ⟨by omega, by omega⟩
 by_cases hz1 : szS szI cs 1048576 < 0
 . refine Ctr.of (n := 101) (rs := [.tmp 4]) Try.func5 rfl rfl Try.ntmps5 rfl rfl (by kernel_rfl) Try.checked.mixed ?_
   simp (disch := first | omega | decide +kernel) only [go_sem, Qa, Qb, Qc, Qd, Qe, ↓reduceIte, reduceCtorEq, Qf, Qg, Qh]
   (repeat' (first | ((first | (refine gsel_split (fun q' => ?_) (fun q' => ?_) <;> (have h' := q') <;> (try simp only [za1, za2, Ba, Bb, za3, ne_eq, za4, za5, za6, Ia, Ib, Ic, Ie, Da, Bc, Bd, Be, za7, za8] at h')) | (have q' := trivial; first | refine callX_new (s1) rfl (by decide) ?_ | refine callY_new (s1) rfl ?_ | refine hE _ _ ret_ne ?_ | refine hE _ _ exit_ne ?_)) <;> (try simp (disch := first | omega | decide +kernel) only [q', go_sem, Qa, Qb, Qc, Qd, Qe, ↓reduceIte, reduceCtorEq, Qf, Qg, Qh]) <;> clear q') | refine hN _ ?_ ?_ Wk.kk | with_reducible refine And.intro ?_ ?_ | with_reducible omega | exact ok_ints | exact cells_ints | exact no_mem | with_reducible exact plain_ints | (refine le_maxLen ?_; omega) | (refine za9 ⟨?_, ?_⟩) | (simp only [go_sem, Qc, Qb, zb1, zb2, forall_eq]; done)))
 obtain ⟨l1, x1, hc⟩ := sz_cnfE (cs := cs) (by omega)
 have hcl' : cs.length <= 4294967296 := by omega
 have hcs : ∀ x ∈ cs, x.length <= 4294967296 := fun x hx => Nat.le_trans (x1 x hx) (by omega)
 have t1 := toCnf_ok v cs hcl' hcs
 have q1 := eqCnf_ok v v cs cs hcl' hcs
 have d1 := toCnfd_ok v cs hcl' hcs
 have hlen := lenSS_bound (a := cs) (B := 1048576) x1
 have m1 := fun τ => markCnf_ok τ v cs 1 (by omega) (by omega) hcl'
 by_cases hok : elG v cs w = true ∧ (elimV cs w).length <= 60
 . have c1 := specElim_ok v cs w hok.1 hok.2
   have c2 := implElim_ok v cs w hok.1 hok.2
   obtain ⟨g1, _⟩ := elG_good hok.1
   have hRx : ∀ x ∈ elimV cs w, x.length <= 13 := fun x hx => good_len (elAll_good g1 cs.length x (((elimV_spec g1).2 x).1 hx))
   have hR := hok.2
   clear hok
   generalize elimV cs w = R at *
   have hRl := lenSS_bound (a := R) (B := 13) hRx
   have hRm : R.length * (13 + 1) <= 60 * 14 := Nat.mul_le_mul_right 14 hR
   have q0 := eqCnf_ok v v R R (by omega) (fun x hx => Nat.le_trans (hRx x hx) (by omega))
   have m3 := fun τ => markCnf_ok τ v R 1 (by omega) (by omega) (by omega)
   have hh := heldCnf_ok v R 1 (by omega) (by omega) (by omega)
   clear e1 h0
   refine Ctr.ofK (n := 101) (rs := [.tmp 4]) Try.func5 rfl rfl Try.ntmps5 rfl rfl (by kernel_rfl) Try.checked.mixed ?_
   refine Ok.seq (Ok.go ?_)
   simp (disch := first | omega | decide +kernel) only [go_sem, Qa, Qb, Qc, Qd, Qe, ↓reduceIte, reduceCtorEq, Qf, Qg, Qh]
   refine Ok.seq (Ok.go ?_)
   simp (disch := first | omega | decide +kernel) only [go_sem, Qa, Qb, Qc, Qd, Qe, ↓reduceIte, reduceCtorEq, Qf, Qg, Qh]
   refine Ok.seq (Ok.go ?_)
   simp (disch := first | omega | decide +kernel) only [go_sem, Qa, Qb, Qc, Qd, Qe, ↓reduceIte, reduceCtorEq, Qf, Qg, Qh]
   (repeat' (first | ((first | (refine gsel_split (fun q' => ?_) (fun q' => ?_) <;> (have h' := q') <;> (try simp only [za1, za2, Ba, Bb, za3, ne_eq, za4, za5, za6, Ia, Ib, Ic, Ie, Da, Bc, Bd, Be, za7, za8] at h') <;> try (exfalso; omega)) | (have q' := trivial; first | refine callX_new (s1) rfl (by decide) ?_ | refine callY_new (s1) rfl ?_ | refine hE _ _ ret_ne ?_ | refine hE _ _ exit_ne ?_)) <;> (try simp (disch := first | omega | decide +kernel) only [q', go_sem, Qa, Qb, Qc, Qd, Qe, ↓reduceIte, reduceCtorEq, Qf, Qg, Qh]) <;> clear q') | refine hN _ ?_ ?_ Wk.kk | with_reducible refine And.intro ?_ ?_ | with_reducible omega | exact ok_ints | exact cells_ints | exact no_mem | with_reducible exact plain_ints | (refine le_maxLen ?_; omega) | (refine za9 ⟨?_, ?_⟩) | (simp only [go_sem, Qc, Qb, zb1, zb2, forall_eq]; done)))
   refine Ok.seq (Ok.go ?_)
   simp (disch := first | omega | decide +kernel) only [go_sem, Qa, Qb, Qc, Qd, Qe, ↓reduceIte, reduceCtorEq, Qf, Qg, Qh]
   (repeat' (first | ((first | (refine gsel_split (fun q' => ?_) (fun q' => ?_) <;> (have h' := q') <;> (try simp only [za1, za2, Ba, Bb, za3, ne_eq, za4, za5, za6, Ia, Ib, Ic, Ie, Da, Bc, Bd, Be, za7, za8] at h') <;> try (exfalso; omega)) | (have q' := trivial; first | refine hE _ _ ret_ne ?_ | refine hE _ _ exit_ne ?_)) <;> (try simp (disch := first | omega | decide +kernel) only [q', go_sem, Qa, Qb, Qc, Qd, Qe, ↓reduceIte, reduceCtorEq, Qf, Qg, Qh]) <;> clear q') | refine hN _ ?_ ?_ Wk.kk | with_reducible refine And.intro ?_ ?_ | with_reducible omega | exact ok_ints | exact cells_ints | exact no_mem | with_reducible exact plain_ints | (refine le_maxLen ?_; omega) | (refine za9 ⟨?_, ?_⟩) | (simp only [go_sem, Qc, Qb, zb1, zb2, forall_eq]; done)))
   clear hz1
   refine Ok.seq (Ok.go ?_)
   simp (disch := first | omega | decide +kernel) only [go_sem, Qa, Qb, Qc, Qd, Qe, ↓reduceIte, reduceCtorEq, Qf, Qg, Qh]
   (repeat' (first | ((first | (refine gsel_split (fun q' => ?_) (fun q' => ?_) <;> (have h' := q') <;> (try simp only [za1, za2, Ba, Bb, za3, ne_eq, za4, za5, za6, Ia, Ib, Ic, Ie, Da, Bc, Bd, Be, za7, za8] at h') <;> try (exfalso; omega)) | (have q' := trivial; first | refine callX_shared (t1) rfl (by decide) ?_ | refine callY_shared (t1) rfl ?_ | refine callX_shared (c1) rfl (by decide) ?_ | refine callY_shared (c1) rfl ?_ | refine hE _ _ ret_ne ?_ | refine hE _ _ exit_ne ?_)) <;> (try simp (disch := first | omega | decide +kernel) only [q', go_sem, Qa, Qb, Qc, Qd, Qe, ↓reduceIte, reduceCtorEq, Qf, Qg, Qh]) <;> clear q') | refine hN _ ?_ ?_ Wk.kk | with_reducible refine And.intro ?_ ?_ | with_reducible omega | exact ok_ints | exact cells_ints | exact no_mem | with_reducible exact plain_ints | (refine le_maxLen ?_; omega) | (refine za9 ⟨?_, ?_⟩) | (simp only [go_sem, Qc, Qb, zb1, zb2, forall_eq]; done)))
   refine Ok.go ?_
   simp (disch := first | omega | decide +kernel) only [go_sem, Qa, Qb, Qc, Qd, Qe, ↓reduceIte, reduceCtorEq, Qf, Qg, Qh]
   (repeat' (first | ((first | (refine gsel_split (fun q' => ?_) (fun q' => ?_) <;> (have h' := q') <;> (try simp only [za1, za2, Ba, Bb, za3, ne_eq, za4, za5, za6, Ia, Ib, Ic, Ie, Da, Bc, Bd, Be, za7, za8] at h')) | (have q' := trivial; first | refine callX_new (d1) rfl (by decide) ?_ | refine callY_new (d1) rfl ?_ | refine callX_new (c2) rfl (by decide) ?_ | refine callY_new (c2) rfl ?_ | refine callX_new (q0) rfl (by decide) ?_ | refine callY_new (q0) rfl ?_ | refine callX_new (q1) rfl (by decide) ?_ | refine callY_new (q1) rfl ?_ | refine callX_keep _ (m1 _) ⟨.inl rfl, .inl rfl, trivial⟩ rfl (by simp [dstB]) ?_ | refine callX_keep _ (m3 _) ⟨.inl rfl, .inl rfl, trivial⟩ rfl (by simp [dstB]) ?_ | refine callX_new (hh) rfl (by decide) ?_ | refine callY_new (hh) rfl ?_ | refine callX_shared (t1) rfl (by decide) ?_ | refine callY_shared (t1) rfl ?_ | refine hE _ _ ret_ne ?_ | refine hE _ _ exit_ne ?_)) <;> (try simp (disch := first | omega | decide +kernel) only [q', go_sem, Qa, Qb, Qc, Qd, Qe, ↓reduceIte, reduceCtorEq, Qf, Qg, Qh]) <;> clear q') | refine hN _ ?_ ?_ Wk.kk | with_reducible refine And.intro ?_ ?_ | with_reducible omega | exact ok_ints | exact cells_ints | exact no_mem | with_reducible exact plain_ints | (refine le_maxLen ?_; omega) | (refine za9 ⟨?_, ?_⟩) | (simp only [go_sem, Qc, Qb, zb1, zb2, forall_eq]; done)))
   all_goals (first | exact absurd trivial h' | omega)
 . have c1 : Ctr Try.prog 22 [.agg [.int .i64 v, .slice (cs.map D.ints)], .int .i64 w] true (.tup [.d (.agg [.int .i64 0, .slice []]), .d (.bool false)]) [] := by
    cases hg : elG v cs w with
    | true => exact specElimB_ok v cs w hg (Nat.lt_of_not_le fun h => hok ⟨hg, h⟩)
    | false => exact specElimF_ok v cs w hg l1 hc
   have c2 : Ctr Try.prog 24 [.agg [.int .i64 v, .slice (cs.map D.ints)], .int .i64 w] false (.tup [.d (.agg [.int .i64 0, .slice []]), .d (.bool false)]) [] := by
    cases hg : elG v cs w with
    | true => exact implElimB_ok v cs w hg (Nat.lt_of_not_le fun h => hok ⟨hg, h⟩)
    | false => exact implElimF_ok v cs w hg l1 hc
   have q0 := eqCnf_ok 0 0 [] [] (by simp) (by simp)
   have m3 := markCnf0_ok 0 1
   have hh := heldCnf_ok 0 [] 1 (by omega) (by simp [lenSS]) (by simp)
   simp only [List.map_nil, and_self, decide_true, Bool.and_self, Bool.and_true] at q0
   have hl0 : (1 : Int) + ((lenSS [] : Nat) : Int) = 1 := by simp [lenSS]
   rw [hl0] at hh
   simp only [cntSS, List.map_nil] at hh
   clear e1 h0
   refine Ctr.ofK (n := 101) (rs := [.tmp 4]) Try.func5 rfl rfl Try.ntmps5 rfl rfl (by kernel_rfl) Try.checked.mixed ?_
   refine Ok.seq (Ok.go ?_)
   simp (disch := first | omega | decide +kernel) only [go_sem, Qa, Qb, Qc, Qd, Qe, ↓reduceIte, reduceCtorEq, Qf, Qg, Qh]
   refine Ok.seq (Ok.go ?_)
   simp (disch := first | omega | decide +kernel) only [go_sem, Qa, Qb, Qc, Qd, Qe, ↓reduceIte, reduceCtorEq, Qf, Qg, Qh]
   refine Ok.seq (Ok.go ?_)
   simp (disch := first | omega | decide +kernel) only [go_sem, Qa, Qb, Qc, Qd, Qe, ↓reduceIte, reduceCtorEq, Qf, Qg, Qh]
   (repeat' (first | ((first | (refine gsel_split (fun q' => ?_) (fun q' => ?_) <;> (have h' := q') <;> (try simp only [za1, za2, Ba, Bb, za3, ne_eq, za4, za5, za6, Ia, Ib, Ic, Ie, Da, Bc, Bd, Be, za7, za8] at h') <;> try (exfalso; omega)) | (have q' := trivial; first | refine callX_new (s1) rfl (by decide) ?_ | refine callY_new (s1) rfl ?_ | refine hE _ _ ret_ne ?_ | refine hE _ _ exit_ne ?_)) <;> (try simp (disch := first | omega | decide +kernel) only [q', go_sem, Qa, Qb, Qc, Qd, Qe, ↓reduceIte, reduceCtorEq, Qf, Qg, Qh]) <;> clear q') | refine hN _ ?_ ?_ Wk.kk | with_reducible refine And.intro ?_ ?_ | with_reducible omega | exact ok_ints | exact cells_ints | exact no_mem | with_reducible exact plain_ints | (refine le_maxLen ?_; omega) | (refine za9 ⟨?_, ?_⟩) | (simp only [go_sem, Qc, Qb, zb1, zb2, forall_eq]; done)))
   refine Ok.seq (Ok.go ?_)
   simp (disch := first | omega | decide +kernel) only [go_sem, Qa, Qb, Qc, Qd, Qe, ↓reduceIte, reduceCtorEq, Qf, Qg, Qh]
   (repeat' (first | ((first | (refine gsel_split (fun q' => ?_) (fun q' => ?_) <;> (have h' := q') <;> (try simp only [za1, za2, Ba, Bb, za3, ne_eq, za4, za5, za6, Ia, Ib, Ic, Ie, Da, Bc, Bd, Be, za7, za8] at h') <;> try (exfalso; omega)) | (have q' := trivial; first | refine hE _ _ ret_ne ?_ | refine hE _ _ exit_ne ?_)) <;> (try simp (disch := first | omega | decide +kernel) only [q', go_sem, Qa, Qb, Qc, Qd, Qe, ↓reduceIte, reduceCtorEq, Qf, Qg, Qh]) <;> clear q') | refine hN _ ?_ ?_ Wk.kk | with_reducible refine And.intro ?_ ?_ | with_reducible omega | exact ok_ints | exact cells_ints | exact no_mem | with_reducible exact plain_ints | (refine le_maxLen ?_; omega) | (refine za9 ⟨?_, ?_⟩) | (simp only [go_sem, Qc, Qb, zb1, zb2, forall_eq]; done)))
   clear hz1
   refine Ok.seq (Ok.go ?_)
   simp (disch := first | omega | decide +kernel) only [go_sem, Qa, Qb, Qc, Qd, Qe, ↓reduceIte, reduceCtorEq, Qf, Qg, Qh]
   (repeat' (first | ((first | (refine gsel_split (fun q' => ?_) (fun q' => ?_) <;> (have h' := q') <;> (try simp only [za1, za2, Ba, Bb, za3, ne_eq, za4, za5, za6, Ia, Ib, Ic, Ie, Da, Bc, Bd, Be, za7, za8] at h') <;> try (exfalso; omega)) | (have q' := trivial; first | refine callX_shared (t1) rfl (by decide) ?_ | refine callY_shared (t1) rfl ?_ | refine callX_shared (c1) rfl (by decide) ?_ | refine callY_shared (c1) rfl ?_ | refine hE _ _ ret_ne ?_ | refine hE _ _ exit_ne ?_)) <;> (try simp (disch := first | omega | decide +kernel) only [q', go_sem, Qa, Qb, Qc, Qd, Qe, ↓reduceIte, reduceCtorEq, Qf, Qg, Qh]) <;> clear q') | refine hN _ ?_ ?_ Wk.kk | with_reducible refine And.intro ?_ ?_ | with_reducible omega | exact ok_ints | exact cells_ints | exact no_mem | with_reducible exact plain_ints | (refine le_maxLen ?_; omega) | (refine za9 ⟨?_, ?_⟩) | (simp only [go_sem, Qc, Qb, zb1, zb2, forall_eq]; done)))
   refine Ok.go ?_
   simp (disch := first | omega | decide +kernel) only [go_sem, Qa, Qb, Qc, Qd, Qe, ↓reduceIte, reduceCtorEq, Qf, Qg, Qh]
   (repeat' (first | ((first | (refine gsel_split (fun q' => ?_) (fun q' => ?_) <;> (have h' := q') <;> (try simp only [za1, za2, Ba, Bb, za3, ne_eq, za4, za5, za6, Ia, Ib, Ic, Ie, Da, Bc, Bd, Be, za7, za8] at h')) | (have q' := trivial; first | refine callX_new (d1) rfl (by decide) ?_ | refine callY_new (d1) rfl ?_ | refine callX_new (c2) rfl (by decide) ?_ | refine callY_new (c2) rfl ?_ | refine callX_new (q0) rfl (by decide) ?_ | refine callY_new (q0) rfl ?_ | refine callX_new (q1) rfl (by decide) ?_ | refine callY_new (q1) rfl ?_ | refine callX_new (m3) rfl (by decide) ?_ | refine callY_new (m3) rfl ?_ | refine callX_keep _ (m1 _) ⟨.inl rfl, .inl rfl, trivial⟩ rfl (by simp [dstB]) ?_ | refine callX_new (hh) rfl (by decide) ?_ | refine callY_new (hh) rfl ?_ | refine callX_shared (t1) rfl (by decide) ?_ | refine callY_shared (t1) rfl ?_ | refine hE _ _ ret_ne ?_ | refine hE _ _ exit_ne ?_)) <;> (try simp (disch := first | omega | decide +kernel) only [q', go_sem, Qa, Qb, Qc, Qd, Qe, ↓reduceIte, reduceCtorEq, Qf, Qg, Qh]) <;> clear q') | refine hN _ ?_ ?_ Wk.kk | with_reducible refine And.intro ?_ ?_ | with_reducible omega | exact ok_ints | exact cells_ints | exact no_mem | with_reducible exact plain_ints | (refine le_maxLen ?_; omega) | (refine za9 ⟨?_, ?_⟩) | (simp only [go_sem, Qc, Qb, zb1, zb2, forall_eq]; done)))
   all_goals (first | exact absurd trivial h' | omega)
end Abs.Y
