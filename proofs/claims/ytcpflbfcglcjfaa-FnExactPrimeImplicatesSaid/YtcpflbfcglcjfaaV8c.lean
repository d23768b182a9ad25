/- What functions of this program compute, as contracts over plain data, with what the proofs need of them. No condition. -/
import Derived.Test.YtcpflbfcglcjfaaV7c
import Derived.Test.YtcpflbfcglcjfaaV4c
set_option linter.all false
namespace Abs.Y
open Go Go.Proofs Abs
open Nat renaming reduceEqDiff -> Qa, reduceLT -> Qb, reduceAdd -> Qc, reduceMul -> Qd, reduceSub -> Qe, reduceLeDiff -> Qf, reduceSubDiff -> Qg, reduceBEq -> Qh
open Bool renaming not_eq_true' -> Ba, not_eq_false' -> Bb, and_eq_true -> Bc, or_eq_true -> Bd, or_eq_false_iff -> Be
open Int renaming ofNat_lt -> Ia, ofNat_le -> Ib, not_lt -> Ic, not_le -> Ie
open Decidable renaming not_not -> Da
set_option maxRecDepth 100000

theorem minS_bd (l : List (List Int)) : ∀ i, i <= l.length -> (minS l i).length <= i ∧ ∀ x ∈ minS l i, x ∈ l
 | 0, _ => ⟨Nat.le_refl _, fun x hx => nomatch hx⟩
 | i + 1, hi => by
   obtain ⟨h1, h2⟩ := minS_bd l i (by omega)
   refine ⟨?_, ?_⟩
   . rw [minS]; split
     . omega
     . rw [List.length_append, List.length_singleton]; omega
   . rw [minS]; split
     . exact h2
     . intro x hx
       rcases List.mem_append.1 hx with hx | hx
       . exact h2 x hx
       . obtain rfl := List.mem_singleton.1 hx
         exact getD_mem (by omega)
theorem minC_bd (v : Int) (cs : List (List Int)) (w : Int) : (minC v cs w).length <= 4096 ∧ ∀ x ∈ minC v cs w, x.length <= 12 := by
 unfold minC
 split
 . rename_i h
   obtain ⟨g1, _⟩ := good6 h
   have := closV_len (w := w.toNat) g1
   have h2 := List.length_filter_le (fun c => !((closV cs w.toNat).any fun d => decide (d.length < c.length) && subI d c)) (closV cs w.toNat)
   refine ⟨by unfold minI; omega, fun x hx => g6_len (closV_g6 g1 x (List.mem_filter.1 hx).1)⟩
 . exact ⟨by simp, fun x hx => nomatch hx⟩
theorem specMin_ok (v : Int) (cs : List (List Int)) (w : Int) (hl : cs.length <= 1048576) (hc : ∀ j, (cs.getD j []).length <= 1048576) :
 Ctr Try.prog 46 [.agg [.int .i64 v, .slice (cs.map D.ints)], .int .i64 w] true (.tup [.d (.slice ((minC v cs w).map D.ints)), .d (.bool (goodN v cs w))]) [] := by
 have c1 := l10Good_ok v cs (by omega) fun j => by have := hc j; omega
 have c2 := l10Width_ok w
 unfold minC
 cases h : goodN v cs w with
 | false =>
   rw [if_neg (by decide)]
   have h' := h
   unfold goodN at h'
   refine Ctr.of (n := 20) (rs := [.tmp 4, .tmp 5]) Try.func46 rfl rfl Try.ntmps46 rfl rfl (by kernel_rfl) Try.checked.mixed ?_
   rw [Bool.and_comm (okCnf v cs)] at h'
   cases hb : (decide (v <= 6) && okCnf v cs) <;> rw [hb] at c1 h'
   all_goals
    (first | rw [Bool.true_and] at h'; rw [h'] at c2 | skip)
    simp (disch := first | omega | decide +kernel) only [List.map_nil, go_sem, Qa, Qb, Qc, Qd, Qe, ↓reduceIte, reduceCtorEq, Qf, Qg, Qh]
    (repeat' (first | ((first | (refine gsel_split (fun q' => ?_) (fun q' => ?_) <;> (have h' := q') <;> (try simp only [za1, za2, Ba, Bb, za3, ne_eq, za4, za5, za6, Ia, Ib, Ic, Ie, Da, Bc, Bd, Be, za7, za8] at h')) | (have q' := trivial; first | refine callX_new (c1) rfl (by decide) ?_ | refine callY_new (c1) rfl ?_ | refine callX_new (c2) rfl (by decide) ?_ | refine callY_new (c2) rfl ?_ | refine hE _ _ ret_ne ?_ | refine hE _ _ exit_ne ?_)) <;> (try simp (disch := first | omega | decide +kernel) only [q', List.map_nil, go_sem, Qa, Qb, Qc, Qd, Qe, ↓reduceIte, reduceCtorEq, Qf, Qg, Qh]) <;> clear q') | refine hN _ ?_ ?_ Wk.kk | with_reducible refine And.intro ?_ ?_ | with_reducible omega | exact ok_ints | exact cells_ints | exact no_mem | with_reducible exact plain_ints | (refine le_maxLen ?_; omega) | (refine za9 ⟨?_, ?_⟩) | (simp only [go_sem, Qc, Qb, zb1, zb2, forall_eq]; done)))
    all_goals exact ret_s2 [14] rfl rfl
 | true =>
   rw [if_pos rfl]
   obtain ⟨g1, g2, g3, g4⟩ := good6 h
   have hb := good_below h
   have h' := h
   rw [goodN, Bc, Bool.and_comm (okCnf v cs)] at h'
   rw [h'.1] at c1
   rw [h'.2] at c2
   obtain ⟨w, rfl⟩ : ∃ n : Nat, w = n := ⟨w.toNat, by omega⟩
   obtain ⟨v, rfl⟩ : ∃ n : Nat, v = n := ⟨v.toNat, by omega⟩
   rw [Int.toNat_natCast] at *
   have c3 := l10Closure_ok g1 hb g2 (by omega) (show w <= 6 by omega)
   refine Ctr.of (n := 20) (rs := [.tmp 4, .tmp 5]) Try.func46 rfl rfl Try.ntmps46 rfl rfl (by kernel_rfl) Try.checked.mixed ?_
   simp (disch := first | omega | decide +kernel) only [go_sem, Qa, Qb, Qc, Qd, Qe, ↓reduceIte, reduceCtorEq, Qf, Qg, Qh]
   (repeat' (first | ((first | (refine gsel_split (fun q' => ?_) (fun q' => ?_) <;> (have h' := q') <;> (try simp only [za1, za2, Ba, Bb, za3, ne_eq, za4, za5, za6, Ia, Ib, Ic, Ie, Da, Bc, Bd, Be, za7, za8] at h')) | (have q' := trivial; first | refine callX_new (c1) rfl (by decide) ?_ | refine callY_new (c1) rfl ?_ | refine callX_new (c2) rfl (by decide) ?_ | refine callY_new (c2) rfl ?_ | refine hE _ _ ret_ne ?_ | refine hE _ _ exit_ne ?_)) <;> (try simp (disch := first | omega | decide +kernel) only [q', go_sem, Qa, Qb, Qc, Qd, Qe, ↓reduceIte, reduceCtorEq, Qf, Qg, Qh]) <;> clear q') | refine hN _ ?_ ?_ Wk.kk | with_reducible refine And.intro ?_ ?_ | with_reducible omega | exact ok_ints | exact cells_ints | exact no_mem | with_reducible exact plain_ints | (refine le_maxLen ?_; omega) | (refine za9 ⟨?_, ?_⟩) | (simp only [go_sem, Qc, Qb, zb1, zb2, forall_eq]; done)))
   refine callX_rel [] [] [] c3 ⟨.inl rfl, .inl rfl, trivial⟩ trivial (by simp [namesI, keysO]) (by simp [dstB]) ?_
   rintro _ _ ⟨W, k, hF, rfl, rfl⟩
   refine ⟨by simp [namesOK, keysO], ?_⟩
   have hso := hF.so
   obtain ⟨a1, a2, a3, a4, a5, a6⟩ := W
   simp only at hso
   subst hso
   have hcl := closV_len (w := w) g1
   have hcg := closV_g6 (w := w) g1
   have hcs := closV_srt cs w
   generalize closV cs w = A at *
   have hms := minS_bd A
   have c4 := l10Minimal_ok A (by omega) (fun x hx => by have := g6_len (hcg x hx); omega) hms
   rw [minS_all hcs hcg] at c4
   simp (disch := first | omega | decide +kernel) only [D.wrk, go_sem, Qa, Qb, Qc, Qd, Qe, ↓reduceIte, reduceCtorEq, Qf, Qg, Qh]
   (repeat' (first | ((first | (refine gsel_split (fun q' => ?_) (fun q' => ?_) <;> (have h' := q') <;> (try simp only [za1, za2, Ba, Bb, za3, ne_eq, za4, za5, za6, Ia, Ib, Ic, Ie, Da, Bc, Bd, Be, za7, za8] at h')) | (have q' := trivial; first | refine callX_shared (c4) rfl (by decide) ?_ | refine callY_shared (c4) rfl ?_ | refine hE _ _ ret_ne ?_ | refine hE _ _ exit_ne ?_)) <;> (try simp (disch := first | omega | decide +kernel) only [q', D.wrk, go_sem, Qa, Qb, Qc, Qd, Qe, ↓reduceIte, reduceCtorEq, Qf, Qg, Qh]) <;> clear q') | refine hN _ ?_ ?_ Wk.kk | with_reducible refine And.intro ?_ ?_ | with_reducible omega | exact ok_ints | exact cells_ints | exact no_mem | with_reducible exact plain_ints | (refine le_maxLen ?_; omega) | (refine za9 ⟨?_, ?_⟩) | (simp only [go_sem, Qc, Qb, zb1, zb2, forall_eq]; done)))
   all_goals exact ret_s2 [] rfl rfl
end Abs.Y
