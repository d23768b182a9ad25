/- What functions of this program compute, as contracts over plain data, with what the proofs need of them. No condition. -/
import Derived.Test.YtcpflbfcglcjfaaG5d
import Derived.Test.YtcpflbfcglcjfaaL1
import Derived.Test.YtcpflbfcglcjfaaAbsRow
import Derived.Test.YtcpflbfcglcjfaaL2
import Derived.Test.YtcpflbfcglcjfaaG1
set_option linter.all false
namespace Abs.Y
open Go Go.Proofs Abs
open Nat renaming reduceEqDiff -> Qa, reduceLT -> Qb, reduceAdd -> Qc, reduceMul -> Qd, reduceSub -> Qe, reduceLeDiff -> Qf, reduceSubDiff -> Qg, reduceBEq -> Qh
open Bool renaming not_eq_true' -> Ba, not_eq_false' -> Bb, and_eq_true -> Bc, or_eq_true -> Bd, or_eq_false_iff -> Be
open Int renaming ofNat_lt -> Ia, ofNat_le -> Ib, not_lt -> Ic, not_le -> Ie
open Decidable renaming not_not -> Da
set_option maxRecDepth 100000

def correctI (v : Int) (cs : List (List Int)) (steps : List Step) (k : Nat) : Bool :=
 okClause v (steps.getD k Step.z).c &&
 (if (steps.getD k Step.z).l = -1 then decide ((steps.getD k Step.z).p = 0) && (decide (0 <= (steps.getD k Step.z).r) && decide ((steps.getD k Step.z).r <= cs.length - 1)) && decide (cs.getD (steps.getD k Step.z).r.toNat [] = (steps.getD k Step.z).c)
  else okEarlier v steps k (steps.getD k Step.z).l &&
   (if (steps.getD k Step.z).r = -1 then decide ((steps.getD k Step.z).p = 0) && subI (steps.getD (steps.getD k Step.z).l.toNat Step.z).c (steps.getD k Step.z).c
    else (okEarlier v steps k (steps.getD k Step.z).r && (decide (1 <= (steps.getD k Step.z).p) && decide ((steps.getD k Step.z).p <= v))) &&
     ((resolveI (steps.getD (steps.getD k Step.z).l.toNat Step.z).c (steps.getD (steps.getD k Step.z).r.toNat Step.z).c (steps.getD k Step.z).p).isSome &&
       decide (optL (resolveI (steps.getD (steps.getD k Step.z).l.toNat Step.z).c (steps.getD (steps.getD k Step.z).r.toNat Step.z).c (steps.getD k Step.z).p) = (steps.getD k Step.z).c))))
end Abs.Y

namespace Abs.Y
open Go Go.Proofs Abs
open Nat renaming reduceEqDiff -> Qa, reduceLT -> Qb, reduceAdd -> Qc, reduceMul -> Qd, reduceSub -> Qe, reduceLeDiff -> Qf, reduceSubDiff -> Qg, reduceBEq -> Qh
open Bool renaming not_eq_true' -> Ba, not_eq_false' -> Bb, and_eq_true -> Bc, or_eq_true -> Bd, or_eq_false_iff -> Be
open Int renaming ofNat_lt -> Ia, ofNat_le -> Ib, not_lt -> Ic, not_le -> Ie
open Decidable renaming not_not -> Da
set_option maxRecDepth 100000

end Abs.Y

namespace Abs.Y
open Go Go.Proofs Abs
open Nat renaming reduceEqDiff -> Qa, reduceLT -> Qb, reduceAdd -> Qc, reduceMul -> Qd, reduceSub -> Qe, reduceLeDiff -> Qf, reduceSubDiff -> Qg, reduceBEq -> Qh
open Bool renaming not_eq_true' -> Ba, not_eq_false' -> Bb, and_eq_true -> Bc, or_eq_true -> Bd, or_eq_false_iff -> Be
open Int renaming ofNat_lt -> Ia, ofNat_le -> Ib, not_lt -> Ic, not_le -> Ie
open Decidable renaming not_not -> Da
set_option maxRecDepth 100000

def wrongI (v : Int) (cs : List (List Int)) (steps : List Step) : Int := idxR (fun k => !correctI v cs steps k) steps.length
structure Sz (cs : List (List Int)) (steps : List Step) : Prop where
 hl : steps.length <= 1048576
 hs : ∀ j, (steps.getD j Step.z).c.length <= 1048576
 hcl : cs.length <= 1048576
 hc : ∀ j, (cs.getD j []).length <= 1048576
def askedI (v : Int) (cs : List (List Int)) (steps : List Step) : Bool := decide (steps.length <= 200) && okCnf v cs
def goodI (v : Int) (cs : List (List Int)) (steps : List Step) : Bool := askedI v cs steps && decide (wrongI v cs steps < 0)
end Abs.Y

namespace Abs.Y
open Go Go.Proofs Abs
open Nat renaming reduceEqDiff -> Qa, reduceLT -> Qb, reduceAdd -> Qc, reduceMul -> Qd, reduceSub -> Qe, reduceLeDiff -> Qf, reduceSubDiff -> Qg, reduceBEq -> Qh
open Bool renaming not_eq_true' -> Ba, not_eq_false' -> Bb, and_eq_true -> Bc, or_eq_true -> Bd, or_eq_false_iff -> Be
open Int renaming ofNat_lt -> Ia, ofNat_le -> Ib, not_lt -> Ic, not_le -> Ie
open Decidable renaming not_not -> Da
set_option maxRecDepth 100000

theorem map_ex {α : Type} (f : α -> D) {es : List D} {R : D -> Prop} {Q : α -> Prop} (h : ∀ e ∈ es, R e) (hR : ∀ e, R e -> ∃ x, e = f x ∧ Q x) : ∃ xs : List α, es = xs.map f ∧ ∀ x ∈ xs, Q x := by
 induction es with
 | nil => exact ⟨[], rfl, by simp⟩
 | cons e r ih =>
   obtain ⟨x, hx, hq⟩ := hR e (h e (by simp))
   obtain ⟨xs, hxs, hqs⟩ := ih fun e he => h e (by simp [he])
   exact ⟨x :: xs, by simp [hx, hxs], fun y hy => by
    rcases List.mem_cons.1 hy with rfl | hy
    . exact hq
    . exact hqs y hy⟩
theorem maxLen_eq : maxLen = 9223372036854775807 := rfl
theorem r_ints {x : D} (h : isSl isI64 x) : ∃ a : List Int, x = D.ints a ∧ a.length <= 9223372036854775807 := by
 obtain ⟨es, rfl, hl, he⟩ := h
 obtain ⟨a, rfl, _⟩ := map_ex (D.int .i64) (Q := fun _ => True) he fun e ⟨n, hn, _⟩ => ⟨n, hn, trivial⟩
 exact ⟨a, rfl, by rw [maxLen_eq] at hl; simpa using hl⟩
theorem r_intss {x : D} (h : isSl (isSl isI64) x) : ∃ a : List (List Int), x = .slice (a.map D.ints) ∧ a.length <= 9223372036854775807 ∧ ∀ y ∈ a, y.length <= 9223372036854775807 := by
 obtain ⟨es, rfl, hl, he⟩ := h
 obtain ⟨a, rfl, ha⟩ := map_ex D.ints he fun e h => r_ints h
 exact ⟨a, rfl, by rw [maxLen_eq] at hl; simpa using hl, ha⟩
end Abs.Y

namespace Abs.Y
open Go Go.Proofs Abs
open Nat renaming reduceEqDiff -> Qa, reduceLT -> Qb, reduceAdd -> Qc, reduceMul -> Qd, reduceSub -> Qe, reduceLeDiff -> Qf, reduceSubDiff -> Qg, reduceBEq -> Qh
open Bool renaming not_eq_true' -> Ba, not_eq_false' -> Bb, and_eq_true -> Bc, or_eq_true -> Bd, or_eq_false_iff -> Be
open Int renaming ofNat_lt -> Ia, ofNat_le -> Ib, not_lt -> Ic, not_le -> Ie
open Decidable renaming not_not -> Da
set_option maxRecDepth 100000

theorem r_cnf {x : D} (h : isSt [isI64, isSl (isSl isI64)] x) : ∃ (v : Int) (a : List (List Int)), x = .agg [.int .i64 v, .slice (a.map D.ints)] ∧ a.length <= 9223372036854775807 ∧ ∀ y ∈ a, y.length <= 9223372036854775807 := by
 obtain ⟨es, rfl, hl, he⟩ := h
 match es, hl with
 | [e0, e1], _ =>
   obtain ⟨v, hv, _⟩ := he 0 (by simp)
   obtain ⟨a, ha, h1, h2⟩ := r_intss (he 1 (by simp))
   simp only [List.getD_cons_zero, List.getD_cons_succ] at hv ha
   subst hv; subst ha
   exact ⟨v, a, rfl, h1, h2⟩
def stepF (s : Step) (left : Int) : Int := szI s.c left
end Abs.Y

namespace Abs.Y
open Go Go.Proofs Abs
open Nat renaming reduceEqDiff -> Qa, reduceLT -> Qb, reduceAdd -> Qc, reduceMul -> Qd, reduceSub -> Qe, reduceLeDiff -> Qf, reduceSubDiff -> Qg, reduceBEq -> Qh
open Bool renaming not_eq_true' -> Ba, not_eq_false' -> Bb, and_eq_true -> Bc, or_eq_true -> Bd, or_eq_false_iff -> Be
open Int renaming ofNat_lt -> Ia, ofNat_le -> Ib, not_lt -> Ic, not_le -> Ie
open Decidable renaming not_not -> Da
set_option maxRecDepth 100000

def cmpI (x y : Int) : Int := if x < y then -1 else if y < x then 1 else 0
def orI (x y : Int) : Int := if x ≠ 0 then x else y
theorem isNaN_ok (x : Int) : Ctr Try.prog 250 [.int .i64 x] false (.d (.bool false)) [] := by
 refine Ctr.of (n := 6) (rs := [.tmp 2]) Try.func250 rfl rfl Try.ntmps250 rfl rfl (by kernel_rfl) Try.checked.mixed ?_
 simp (disch := first | omega | decide +kernel) only [go_sem, Qa, Qb, Qc, Qd, Qe, ↓reduceIte, reduceCtorEq, Qf, Qg, Qh]
 (repeat' (first | ((first | (refine gsel_split (fun q' => ?_) (fun q' => ?_) <;> (have h' := q') <;> (try simp only [za1, za2, Ba, Bb, za3, ne_eq, za4, za5, za6, Ia, Ib, Ic, Ie, Da, Bc, Bd, Be, za7, za8] at h')) | (have q' := trivial; first | refine hE _ _ ret_ne ?_ | refine hE _ _ exit_ne ?_)) <;> (try simp (disch := first | omega | decide +kernel) only [q', go_sem, Qa, Qb, Qc, Qd, Qe, ↓reduceIte, reduceCtorEq, Qf, Qg, Qh]) <;> clear q') | refine hN _ ?_ ?_ Wk.kk | with_reducible refine And.intro ?_ ?_ | with_reducible omega | exact ok_ints | exact cells_ints | exact no_mem | with_reducible exact plain_ints | (refine le_maxLen ?_; omega) | (refine za9 ⟨?_, ?_⟩) | (simp only [go_sem, Qc, Qb, zb1, zb2, forall_eq]; done)))
 all_goals (first | (simp; done))
theorem compare_ok (x y : Int) : Ctr Try.prog 191 [.int .i64 x, .int .i64 y] false (.d (.int .i64 (cmpI x y))) [] := by
 have c1 := fun x => isNaN_ok x
 unfold cmpI
 refine Ctr.of (n := 20) (rs := [.tmp 4]) Try.func191 rfl rfl Try.ntmps191 rfl rfl (by kernel_rfl) Try.checked.mixed ?_
 simp (disch := first | omega | decide +kernel) only [go_sem, Qa, Qb, Qc, Qd, Qe, ↓reduceIte, reduceCtorEq, Qf, Qg, Qh]
 (repeat' (first | ((first | (refine gsel_split (fun q' => ?_) (fun q' => ?_) <;> (have h' := q') <;> (try simp only [za1, za2, Ba, Bb, za3, ne_eq, za4, za5, za6, Ia, Ib, Ic, Ie, Da, Bc, Bd, Be, za7, za8] at h')) | (have q' := trivial; first | refine callX_new (c1 _) rfl (by decide) ?_ | refine callY_new (c1 _) rfl ?_ | refine hE _ _ ret_ne ?_ | refine hE _ _ exit_ne ?_)) <;> (try simp (disch := first | omega | decide +kernel) only [q', go_sem, Qa, Qb, Qc, Qd, Qe, ↓reduceIte, reduceCtorEq, Qf, Qg, Qh]) <;> clear q') | refine hN _ ?_ ?_ Wk.kk | with_reducible refine And.intro ?_ ?_ | with_reducible omega | exact ok_ints | exact cells_ints | exact no_mem | with_reducible exact plain_ints | (refine le_maxLen ?_; omega) | (refine za9 ⟨?_, ?_⟩) | (simp only [go_sem, Qc, Qb, zb1, zb2, forall_eq]; done)))
 all_goals (first | (simp_all [D.plain]; done) | (split <;> first | omega | (split <;> first | omega | rfl) | rfl))
theorem orL_ok (xs : List Int) (hl : xs.length <= 4294967296) : Ctr Try.prog 190 [.ints xs] false (.d (.int .i64 ((xs.find? (fun x => decide (x ≠ 0))).getD 0))) [] := by
 refine Ctr.of (n := 18) (rs := [.tmp 2]) Try.func190 rfl rfl Try.ntmps190 rfl rfl (by kernel_rfl) Try.checked.mixed ?_
 simp (disch := first | omega | decide +kernel) only [D.ints, go_sem, Qa, Qb, Qc, Qd, Qe, ↓reduceIte, reduceCtorEq, Qf, Qg, Qh]
 refine Ok.loopC [16, 15, 14, 13, 12, 11, 10, 9, 8, 5, 4, 2, 1, 0] (fun i => [(8, .d (.int .i64 (i : Nat)))]) xs.length (fun i => (xs.drop i).find? (fun x => decide (x ≠ 0)) = xs.find? (fun x => decide (x ≠ 0))) rfl (Wk.kk) ?_
 intro R i hN hE hi hI
 by_cases hlt : i < xs.length
 . rw [drop_cons 0 xs i hlt, List.find?_cons] at hI
   simp (disch := first | omega | decide +kernel) only [D.ints, go_sem, Qa, Qb, Qc, Qd, Qe, ↓reduceIte, reduceCtorEq, Qf, Qg, Qh]
   (repeat' (first | ((first | (refine gsel_split (fun q' => ?_) (fun q' => ?_) <;> (have h' := q') <;> (try simp only [za1, za2, Ba, Bb, za3, ne_eq, za4, za5, za6, Ia, Ib, Ic, Ie, Da, Bc, Bd, Be, za7, za8] at h')) | (have q' := trivial; first | refine hE _ _ ret_ne ?_ | refine hE _ _ exit_ne ?_)) <;> (try simp (disch := first | omega | decide +kernel) only [q', go_sem, Qa, Qb, Qc, Qd, Qe, ↓reduceIte, reduceCtorEq, Qf, Qg, Qh]) <;> clear q') | refine hN _ ?_ ?_ Wk.kk | with_reducible refine And.intro ?_ ?_ | with_reducible omega | exact ok_ints | exact cells_ints | exact no_mem | with_reducible exact plain_ints | (refine le_maxLen ?_; omega) | (refine za9 ⟨?_, ?_⟩) | (simp only [go_sem, Qc, Qb, zb1, zb2, forall_eq]; done)))
   . rw [decide_eq_true h'] at hI
     rw [← hI]; rfl
   . rw [decide_eq_false (fun h => h h')] at hI
     exact hI
 . rw [List.drop_eq_nil_of_le (by omega)] at hI
   simp (disch := first | omega | decide +kernel) only [D.ints, go_sem, Qa, Qb, Qc, Qd, Qe, ↓reduceIte, reduceCtorEq, Qf, Qg, Qh]
   (repeat' (first | ((first | (refine gsel_split (fun q' => ?_) (fun q' => ?_) <;> (have h' := q') <;> (try simp only [za1, za2, Ba, Bb, za3, ne_eq, za4, za5, za6, Ia, Ib, Ic, Ie, Da, Bc, Bd, Be, za7, za8] at h')) | (have q' := trivial; first | refine hE _ _ ret_ne ?_ | refine hE _ _ exit_ne ?_)) <;> (try simp (disch := first | omega | decide +kernel) only [q', go_sem, Qa, Qb, Qc, Qd, Qe, ↓reduceIte, reduceCtorEq, Qf, Qg, Qh]) <;> clear q') | refine hN _ ?_ ?_ Wk.kk | with_reducible refine And.intro ?_ ?_ | with_reducible omega | exact ok_ints | exact cells_ints | exact no_mem | with_reducible exact plain_ints | (refine le_maxLen ?_; omega) | (refine za9 ⟨?_, ?_⟩) | (simp only [go_sem, Qc, Qb, zb1, zb2, forall_eq]; done)))
   rw [← hI]; rfl
theorem or_ok (x y : Int) : Ctr Try.prog 190 [.slice [.int .i64 x, .int .i64 y]] false (.d (.int .i64 (orI x y))) [] := by
 have h := orL_ok [x, y] (by simp)
 have e : ([x, y].find? (fun x => decide (x ≠ 0))).getD 0 = orI x y := by
  unfold orI
  by_cases h1 : x = 0 <;> by_cases h2 : y = 0 <;> simp [h1, h2]
 rw [e] at h
 exact h
end Abs.Y

namespace Abs.Y
open Go Go.Proofs Abs
open Nat renaming reduceEqDiff -> Qa, reduceLT -> Qb, reduceAdd -> Qc, reduceMul -> Qd, reduceSub -> Qe, reduceLeDiff -> Qf, reduceSubDiff -> Qg, reduceBEq -> Qh
open Bool renaming not_eq_true' -> Ba, not_eq_false' -> Bb, and_eq_true -> Bc, or_eq_true -> Bd, or_eq_false_iff -> Be
open Int renaming ofNat_lt -> Ia, ofNat_le -> Ib, not_lt -> Ic, not_le -> Ie
open Decidable renaming not_not -> Da
set_option maxRecDepth 100000

def cmpLI (a b : Int) : Int := orI (cmpI (absI a) (absI b)) (cmpI b a)
def lexI : List Int -> List Int -> Int
 | [], [] => 0
 | [], _ :: _ => -1
 | _ :: _, [] => 1
 | x :: r, y :: s => if cmpLI x y ≠ 0 then cmpLI x y else lexI r s
def cmpCI (a b : List Int) : Int := orI (cmpI a.length b.length) (lexI a b)
theorem compareLiterals_ok (a b : Int) : Ctr Try.prog 193 [.int .i64 a, .int .i64 b] false (.d (.int .i64 (cmpLI a b))) [] := by
 have c1 := abs_ok a
 have c2 := abs_ok b
 have c3 := compare_ok (absI a) (absI b)
 have c4 := compare_ok b a
 have c5 := or_ok (cmpI (absI a) (absI b)) (cmpI b a)
 refine Ctr.of (n := 15) (rs := [.tmp 4]) Try.func193 rfl rfl Try.ntmps193 rfl rfl (by kernel_rfl) Try.checked.mixed ?_
 simp (disch := first | omega | decide +kernel) only [go_sem, Qa, Qb, Qc, Qd, Qe, ↓reduceIte, reduceCtorEq, Qf, Qg, Qh]
 (repeat' (first | ((first | (refine gsel_split (fun q' => ?_) (fun q' => ?_) <;> (have h' := q') <;> (try simp only [za1, za2, Ba, Bb, za3, ne_eq, za4, za5, za6, Ia, Ib, Ic, Ie, Da, Bc, Bd, Be, za7, za8] at h')) | (have q' := trivial; first | refine callX_new (c1) rfl (by decide) ?_ | refine callY_new (c1) rfl ?_ | refine callX_new (c2) rfl (by decide) ?_ | refine callY_new (c2) rfl ?_ | refine callX_new (c3) rfl (by decide) ?_ | refine callY_new (c3) rfl ?_ | refine callX_new (c4) rfl (by decide) ?_ | refine callY_new (c4) rfl ?_ | refine callX_new (c5) rfl (by decide) ?_ | refine callY_new (c5) rfl ?_ | refine hE _ _ ret_ne ?_ | refine hE _ _ exit_ne ?_)) <;> (try simp (disch := first | omega | decide +kernel) only [q', go_sem, Qa, Qb, Qc, Qd, Qe, ↓reduceIte, reduceCtorEq, Qf, Qg, Qh]) <;> clear q') | refine hN _ ?_ ?_ Wk.kk | with_reducible refine And.intro ?_ ?_ | with_reducible omega | exact ok_ints | exact cells_ints | exact no_mem | with_reducible exact plain_ints | (refine le_maxLen ?_; omega) | (refine za9 ⟨?_, ?_⟩) | (simp only [go_sem, Qc, Qb, zb1, zb2, forall_eq]; done)))
 rfl
theorem compareFunc_ok (a b : List Int) (ha : a.length <= 4294967296) (hb : b.length <= 4294967296) : Ctr Try.prog 192 [.ints a, .ints b, .fn (.func 193) [] []] false (.d (.int .i64 (lexI a b))) [] := by
 refine Ctr.of (n := 39) (rs := [.tmp 6]) Try.func192 rfl rfl Try.ntmps192 rfl rfl (by kernel_rfl) Try.checked.mixed ?_
 simp (disch := first | omega | decide +kernel) only [D.ints, go_sem, Qa, Qb, Qc, Qd, Qe, ↓reduceIte, reduceCtorEq, Qf, Qg, Qh]
 refine Ok.loopC [33, 32, 31, 30, 29, 28, 27, 26, 25, 24, 23, 22, 21, 20, 19, 18, 17, 16, 15, 14, 13, 10, 9, 8, 7, 6, 5, 4, 3] (fun i => [(13, .d (.int .i64 (i : Nat)))]) a.length (fun i => i <= b.length ∧ lexI (a.drop i) (b.drop i) = lexI a b) ⟨by omega, rfl⟩ (Wk.kk) ?_
 rintro R i hN hE hi ⟨hib, hI⟩
 by_cases hlt : i < a.length
 . have c1 := compareLiterals_ok (a.getD i 0) (b.getD i 0)
   simp (disch := first | omega | decide +kernel) only [D.ints, go_sem, Qa, Qb, Qc, Qd, Qe, ↓reduceIte, reduceCtorEq, Qf, Qg, Qh]
   (repeat' (first | ((first | (refine gsel_split (fun q' => ?_) (fun q' => ?_) <;> (have h' := q') <;> (try simp only [za1, za2, Ba, Bb, za3, ne_eq, za4, za5, za6, Ia, Ib, Ic, Ie, Da, Bc, Bd, Be, za7, za8] at h')) | (have q' := trivial; first | refine callX_new (c1) rfl (by decide) ?_ | refine callY_new (c1) rfl ?_ | refine hE _ _ ret_ne ?_ | refine hE _ _ exit_ne ?_)) <;> (try simp (disch := first | omega | decide +kernel) only [q', D.ints, go_sem, Qa, Qb, Qc, Qd, Qe, ↓reduceIte, reduceCtorEq, Qf, Qg, Qh]) <;> clear q') | refine hN _ ?_ ?_ Wk.kk | with_reducible refine And.intro ?_ ?_ | with_reducible omega | exact ok_ints | exact cells_ints | exact no_mem | with_reducible exact plain_ints | (refine le_maxLen ?_; omega) | (refine za9 ⟨?_, ?_⟩) | (simp only [go_sem, Qc, Qb, zb1, zb2, forall_eq]; done)))
   . rw [drop_cons 0 a i hlt, show b.drop i = [] from List.drop_eq_nil_of_le (by omega)] at hI
     rw [← hI]; rfl
   . rw [drop_cons 0 a i hlt, drop_cons 0 b i (by omega), lexI, if_pos h'] at hI
     rw [hI]
   . rw [drop_cons 0 a i hlt, drop_cons 0 b i (by omega), lexI, if_neg (by simpa using h')] at hI
     exact hI
 . simp (disch := first | omega | decide +kernel) only [D.ints, go_sem, Qa, Qb, Qc, Qd, Qe, ↓reduceIte, reduceCtorEq, Qf, Qg, Qh]
   (repeat' (first | ((first | (refine gsel_split (fun q' => ?_) (fun q' => ?_) <;> (have h' := q') <;> (try simp only [za1, za2, Ba, Bb, za3, ne_eq, za4, za5, za6, Ia, Ib, Ic, Ie, Da, Bc, Bd, Be, za7, za8] at h')) | (have q' := trivial; first | refine hE _ _ ret_ne ?_ | refine hE _ _ exit_ne ?_)) <;> (try simp (disch := first | omega | decide +kernel) only [q', go_sem, Qa, Qb, Qc, Qd, Qe, ↓reduceIte, reduceCtorEq, Qf, Qg, Qh]) <;> clear q') | refine hN _ ?_ ?_ Wk.kk | with_reducible refine And.intro ?_ ?_ | with_reducible omega | exact ok_ints | exact cells_ints | exact no_mem | with_reducible exact plain_ints | (refine le_maxLen ?_; omega) | (refine za9 ⟨?_, ?_⟩) | (simp only [go_sem, Qc, Qb, zb1, zb2, forall_eq]; done)))
   . rw [List.drop_eq_nil_of_le (by omega), drop_cons 0 b i (by omega)] at hI
     rw [← hI]; rfl
   . rw [List.drop_eq_nil_of_le (by omega), List.drop_eq_nil_of_le (by omega)] at hI
     rw [← hI]; rfl
theorem compareClauses_ok (a b : List Int) (ha : a.length <= 4294967296) (hb : b.length <= 4294967296) : Ctr Try.prog 102 [.ints a, .ints b] false (.d (.int .i64 (cmpCI a b))) [] := by
 have c1 := compare_ok a.length b.length
 have c2 := compareFunc_ok a b ha hb
 have c3 := or_ok (cmpI a.length b.length) (lexI a b)
 refine Ctr.of (n := 15) (rs := [.tmp 4]) Try.func102 rfl rfl Try.ntmps102 rfl rfl (by kernel_rfl) Try.checked.mixed ?_
 simp (disch := first | omega | decide +kernel) only [D.ints, go_sem, Qa, Qb, Qc, Qd, Qe, ↓reduceIte, reduceCtorEq, Qf, Qg, Qh]
 (repeat' (first | ((first | (refine gsel_split (fun q' => ?_) (fun q' => ?_) <;> (have h' := q') <;> (try simp only [za1, za2, Ba, Bb, za3, ne_eq, za4, za5, za6, Ia, Ib, Ic, Ie, Da, Bc, Bd, Be, za7, za8] at h')) | (have q' := trivial; first | refine callX_new (c1) rfl (by decide) ?_ | refine callY_new (c1) rfl ?_ | refine callX_new (c2) rfl (by decide) ?_ | refine callY_new (c2) rfl ?_ | refine callX_new (c3) rfl (by decide) ?_ | refine callY_new (c3) rfl ?_ | refine hE _ _ ret_ne ?_ | refine hE _ _ exit_ne ?_)) <;> (try simp (disch := first | omega | decide +kernel) only [q', D.ints, go_sem, Qa, Qb, Qc, Qd, Qe, ↓reduceIte, reduceCtorEq, Qf, Qg, Qh]) <;> clear q') | refine hN _ ?_ ?_ Wk.kk | with_reducible refine And.intro ?_ ?_ | with_reducible omega | exact ok_ints | exact cells_ints | exact no_mem | with_reducible exact plain_ints | (refine le_maxLen ?_; omega) | (refine za9 ⟨?_, ?_⟩) | (simp only [go_sem, Qc, Qb, zb1, zb2, forall_eq]; done)))
 all_goals (first | rfl)
theorem l2Key_ok (l : Int) (h : -4611686018427387900 <= l ∧ l <= 4611686018427387900) : Ctr Try.prog 223 [.int .i64 l] false (.d (.int .i64 (if l < 0 then -2 * l + 1 else 2 * l))) [] := by
 refine Ctr.of (n := 10) (rs := [.tmp 2]) Try.func223 rfl rfl Try.ntmps223 rfl rfl (by kernel_rfl) Try.checked.mixed ?_
 simp (disch := first | omega | decide +kernel) only [go_sem, Qa, Qb, Qc, Qd, Qe, ↓reduceIte, reduceCtorEq, Qf, Qg, Qh]
 (repeat' (first | ((first | (refine gsel_split (fun q' => ?_) (fun q' => ?_) <;> (have h' := q') <;> (try simp only [za1, za2, Ba, Bb, za3, ne_eq, za4, za5, za6, Ia, Ib, Ic, Ie, Da, Bc, Bd, Be, za7, za8] at h')) | (have q' := trivial; first | refine hE _ _ ret_ne ?_ | refine hE _ _ exit_ne ?_)) <;> (try simp (disch := first | omega | decide +kernel) only [q', go_sem, Qa, Qb, Qc, Qd, Qe, ↓reduceIte, reduceCtorEq, Qf, Qg, Qh]) <;> clear q') | refine hN _ ?_ ?_ Wk.kk | with_reducible refine And.intro ?_ ?_ | with_reducible omega | exact ok_ints | exact cells_ints | exact no_mem | with_reducible exact plain_ints | (refine le_maxLen ?_; omega) | (refine za9 ⟨?_, ?_⟩) | (simp only [go_sem, Qc, Qb, zb1, zb2, forall_eq]; done)))
 . rw [if_pos h']
 . rw [if_neg (by omega)]
def Sm (c : List Int) : Prop := ∀ x ∈ c, -4611686018427387900 <= x ∧ x <= 4611686018427387900
theorem cmpLI_lt {a b : Int} (ha : -4611686018427387900 <= a ∧ a <= 4611686018427387900) (hb : -4611686018427387900 <= b ∧ b <= 4611686018427387900) :
 (cmpLI a b < 0 ↔ (if a < 0 then -2 * a + 1 else 2 * a) < (if b < 0 then -2 * b + 1 else 2 * b)) ∧ (cmpLI a b = 0 ↔ a = b) := by
 unfold cmpLI orI cmpI
 rw [absI_eq (by omega), absI_eq (by omega)]
 repeat' split
 all_goals omega
def befI (a b : List Int) : Bool := decide (cmpCI a b < 0)
theorem lexI_at : ∀ {a b : List Int} {i : Nat}, a.length = b.length -> i < a.length -> (∀ j, j < i -> a.getD j 0 = b.getD j 0) -> Sm a -> Sm b -> a.getD i 0 ≠ b.getD i 0 -> lexI a b = cmpLI (a.getD i 0) (b.getD i 0)
 | x :: r, y :: s, 0, hl, hi, hj, sa, sb, hne => by
   rw [lexI, if_pos]
   . rfl
   . intro h0
     exact hne ((cmpLI_lt (sa x (by simp)) (sb y (by simp))).2.1 h0)
 | x :: r, y :: s, i + 1, hl, hi, hj, sa, sb, hne => by
   have h0 := hj 0 (by omega)
   simp only [List.getD_cons_zero] at h0
   rw [lexI, if_neg (by simpa using (cmpLI_lt (sa x (by simp)) (sb y (by simp))).2.2 h0)]
   exact lexI_at (by simpa using hl) (by simpa using hi) (fun j hj' => by simpa using hj (j + 1) (by omega)) (fun z hz => sa z (by simp [hz])) (fun z hz => sb z (by simp [hz])) hne
 | [], _, _, _, hi, _, _, _, _ => by simp at hi
 | _ :: _, [], _, hl, _, _, _, _, _ => by simp at hl
theorem lexI_self : ∀ {a : List Int}, Sm a -> lexI a a = 0
 | [], _ => rfl
 | x :: r, sa => by
   rw [lexI, if_neg (by simpa using (cmpLI_lt (sa x (by simp)) (sa x (by simp))).2.2 rfl)]
   exact lexI_self fun z hz => sa z (by simp [hz])
theorem cmpI_lt (x y : Int) : (cmpI x y < 0 ↔ x < y) ∧ (cmpI x y = 0 ↔ x = y) := by
 unfold cmpI
 repeat' split
 all_goals omega
theorem befI_len {a b : List Int} (h : ¬ (a.length : Int) = b.length) : befI a b = decide ((a.length : Int) < b.length) := by
 have hc := cmpI_lt a.length b.length
 unfold befI cmpCI orI
 rw [if_pos (fun h0 => h (hc.2.1 h0))]
 exact decide_eq_decide.2 hc.1
theorem befI_eq {a b : List Int} (h : (a.length : Int) = b.length) : befI a b = decide (lexI a b < 0) := by
 have hc := cmpI_lt a.length b.length
 unfold befI cmpCI orI
 rw [if_neg (by simpa using hc.2.2 h)]
theorem l2Before_ok (a b : List Int) (ha : a.length <= 4294967296) (hb : b.length <= 4294967296) (sa : Sm a) (sb : Sm b) : Ctr Try.prog 160 [.ints a, .ints b] false (.d (.bool (befI a b))) [] := by
 refine Ctr.of (n := 42) (rs := [.tmp 4]) Try.func160 rfl rfl Try.ntmps160 rfl rfl (by kernel_rfl) Try.checked.mixed ?_
 simp (disch := first | omega | decide +kernel) only [D.ints, go_sem, Qa, Qb, Qc, Qd, Qe, ↓reduceIte, reduceCtorEq, Qf, Qg, Qh]
 (repeat' (first | ((first | (refine gsel_split (fun q' => ?_) (fun q' => ?_) <;> (have h' := q') <;> (try simp only [za1, za2, Ba, Bb, za3, ne_eq, za4, za5, za6, Ia, Ib, Ic, Ie, Da, Bc, Bd, Be, za7, za8] at h')) | (have q' := trivial; first | refine hE _ _ ret_ne ?_ | refine hE _ _ exit_ne ?_)) <;> (try simp (disch := first | omega | decide +kernel) only [q', go_sem, Qa, Qb, Qc, Qd, Qe, ↓reduceIte, reduceCtorEq, Qf, Qg, Qh]) <;> clear q') | refine hN _ ?_ ?_ Wk.kk | with_reducible refine And.intro ?_ ?_ | with_reducible omega | exact ok_ints | exact cells_ints | exact no_mem | with_reducible exact plain_ints | (refine le_maxLen ?_; omega) | (refine za9 ⟨?_, ?_⟩) | (simp only [go_sem, Qc, Qb, zb1, zb2, forall_eq]; done)))
 . rw [befI_len h']
 . refine Ok.loopC [41, 40, 39, 38, 37, 36, 35, 34, 33, 32, 31, 30, 29, 28, 27, 26, 25, 24, 23, 22, 21, 20, 19, 18, 17, 16, 15, 14, 13, 12, 11, 10, 9, 8, 7, 6, 5, 4, 3, 2] (fun i => [(5, .d (.int .i64 (i : Nat)))]) a.length (fun i => ∀ j, j < i -> a.getD j 0 = b.getD j 0) (by simp) (Wk.kk) ?_
   intro R i hN hE hi hI
   by_cases hlt : i < a.length
   . have ka := sa _ (getD_mem (z := (0 : Int)) hlt)
     have kb := sb _ (getD_mem (z := (0 : Int)) (show i < b.length by omega))
     have c1 := l2Key_ok (a.getD i 0) ka
     have c2 := l2Key_ok (b.getD i 0) kb
     simp (disch := first | omega | decide +kernel) only [D.ints, go_sem, Qa, Qb, Qc, Qd, Qe, ↓reduceIte, reduceCtorEq, Qf, Qg, Qh]
     (repeat' (first | ((first | (refine gsel_split (fun q' => ?_) (fun q' => ?_) <;> (have h' := q') <;> (try simp only [za1, za2, Ba, Bb, za3, ne_eq, za4, za5, za6, Ia, Ib, Ic, Ie, Da, Bc, Bd, Be, za7, za8] at h')) | (have q' := trivial; first | refine callX_new (c1) rfl (by decide) ?_ | refine callY_new (c1) rfl ?_ | refine callX_new (c2) rfl (by decide) ?_ | refine callY_new (c2) rfl ?_ | refine hE _ _ ret_ne ?_ | refine hE _ _ exit_ne ?_)) <;> (try simp (disch := first | omega | decide +kernel) only [q', D.ints, go_sem, Qa, Qb, Qc, Qd, Qe, ↓reduceIte, reduceCtorEq, Qf, Qg, Qh]) <;> clear q') | refine hN _ ?_ ?_ Wk.kk | with_reducible refine And.intro ?_ ?_ | with_reducible omega | exact ok_ints | exact cells_ints | exact no_mem | with_reducible exact plain_ints | (refine le_maxLen ?_; omega) | (refine za9 ⟨?_, ?_⟩) | (simp only [go_sem, Qc, Qb, zb1, zb2, forall_eq]; done)))
     . rename_i hne
       rw [befI_eq (by omega), lexI_at (by omega) hlt hI sa sb (by assumption)]
       rw [decide_eq_decide.2 (cmpLI_lt ka kb).1]
     . exact all_succ hI (by assumption)
   . simp (disch := first | omega | decide +kernel) only [D.ints, go_sem, Qa, Qb, Qc, Qd, Qe, ↓reduceIte, reduceCtorEq, Qf, Qg, Qh]
     (repeat' (first | ((first | (refine gsel_split (fun q' => ?_) (fun q' => ?_) <;> (have h' := q') <;> (try simp only [za1, za2, Ba, Bb, za3, ne_eq, za4, za5, za6, Ia, Ib, Ic, Ie, Da, Bc, Bd, Be, za7, za8] at h')) | (have q' := trivial; first | refine hE _ _ ret_ne ?_ | refine hE _ _ exit_ne ?_)) <;> (try simp (disch := first | omega | decide +kernel) only [q', go_sem, Qa, Qb, Qc, Qd, Qe, ↓reduceIte, reduceCtorEq, Qf, Qg, Qh]) <;> clear q') | refine hN _ ?_ ?_ Wk.kk | with_reducible refine And.intro ?_ ?_ | with_reducible omega | exact ok_ints | exact cells_ints | exact no_mem | with_reducible exact plain_ints | (refine le_maxLen ?_; omega) | (refine za9 ⟨?_, ?_⟩) | (simp only [go_sem, Qc, Qb, zb1, zb2, forall_eq]; done)))
     have e : a = b := ext_getDz 0 (by omega) fun j hj => hI j (by omega)
     rw [befI_eq (by omega), ← e, lexI_self sa]
     rfl
theorem befI_self {a : List Int} (sa : Sm a) : befI a a = false := by rw [befI_eq rfl, lexI_self sa]; rfl
end Abs.Y
