/- What functions of this program compute, as contracts over plain data, with what the proofs need of them. No condition. -/
import Derived.Test.YtcpflbfcglcjfaaU12
import Derived.Test.YtcpflbfcglcjfaaM0
import Derived.Test.YtcpflbfcglcjfaaE12
set_option linter.all false
namespace Abs.Y
open Go Go.Proofs Abs
open Nat renaming reduceEqDiff -> Qa, reduceLT -> Qb, reduceAdd -> Qc, reduceMul -> Qd, reduceSub -> Qe, reduceLeDiff -> Qf, reduceSubDiff -> Qg, reduceBEq -> Qh
open Bool renaming not_eq_true' -> Ba, not_eq_false' -> Bb, and_eq_true -> Bc, or_eq_true -> Bd, or_eq_false_iff -> Be
open Int renaming ofNat_lt -> Ia, ofNat_le -> Ib, not_lt -> Ic, not_le -> Ie
open Decidable renaming not_not -> Da
set_option maxRecDepth 100000

def minI (l : List (List Int)) : List (List Int) := l.filter fun c => !(l.any fun d => decide (d.length < c.length) && subI d c)
def minS (l : List (List Int)) : Nat -> List (List Int)
 | 0 => []
 | i + 1 => if (minS l i).any (fun d => subI d (l.getD i [])) then minS l i else minS l i ++ [l.getD i []]
theorem subI_iff {a b : List Int} : subI a b = true ↔ ∀ x ∈ a, x ∈ b := by
 simp only [subI, Ba, List.any_eq_false]
 constructor
 . intro h x hx
   have h1 : b.any (· == x) = true := by simpa using h x hx
   obtain ⟨y, hy, e⟩ := List.any_eq_true.1 h1
   rw [beq_iff_eq] at e
   exact e ▸ hy
 . intro h x hx hn
   exact hn x (h x hx) (by simp)
theorem nodup_sub : ∀ (d : List Int) (x : List Int), d.Nodup -> (∀ y ∈ d, y ∈ x) -> d.length <= x.length
 | [], x, _, _ => Nat.zero_le _
 | y :: d, x, hn, h => by
   have hn' := List.nodup_cons.1 hn
   have hy := h y (by simp)
   have := nodup_sub d (x.erase y) hn'.2 (fun z hz => by
    have hne : z ≠ y := fun e => hn'.1 (e ▸ hz)
    exact (List.mem_erase_of_ne hne).2 (h z (by simp [hz])))
   rw [List.length_erase_of_mem hy] at this
   have hp := List.length_pos_of_mem hy
   rw [List.length_cons]; omega
theorem good_nod {c : List Int} (g : Good c) : c.Nodup := g.1.imp fun {x y} h e => by subst e; omega
theorem sub_lt {a b : List Int} (ga : Good a) (gb : Good b) (h : subI a b = true) (hne : a ≠ b) : a.length < b.length := by
 rw [subI_iff] at h
 have h1 := nodup_sub a b (good_nod ga) h
 apply Nat.lt_of_not_le
 intro h2
 apply hne
 refine good_uniq ga gb fun x => ⟨h x, fun hx => Classical.byContradiction fun hn => ?_⟩
 have := nodup_sub (x :: a) b (List.nodup_cons.2 ⟨hn, good_nod ga⟩) (fun y hy => by
  rcases List.mem_cons.1 hy with rfl | hy
  . exact hx
  . exact h y hy)
 rw [List.length_cons] at this
 omega
theorem min_below {l : List (List Int)} : ∀ (n : Nat) (d : List Int), d.length <= n -> d ∈ l -> ∃ e ∈ minI l, subI e d = true ∧ e.length <= d.length
 | n, d, hn, hd => by
   by_cases h : l.any (fun e => decide (e.length < d.length) && subI e d) = true
   . obtain ⟨e, he, h2⟩ := List.any_eq_true.1 h
     simp only [Bc, decide_eq_true_eq] at h2
     cases n with
     | zero => omega
     | succ n =>
       obtain ⟨f, hf, h3, h4⟩ := min_below n e (by omega) he
       refine ⟨f, hf, subI_iff.2 fun x hx => subI_iff.1 h2.2 x (subI_iff.1 h3 x hx), by omega⟩
   . refine ⟨d, List.mem_filter.2 ⟨hd, by simpa using h⟩, subI_iff.2 fun x hx => hx, Nat.le_refl _⟩
theorem minS_eq {l : List (List Int)} (hs : Srt l) (hg : ∀ c ∈ l, G6 c) : ∀ i, i <= l.length -> minS l i = (l.take i).filter fun c => !(l.any fun d => decide (d.length < c.length) && subI d c)
 | 0, _ => rfl
 | i + 1, hi => by
   have ih := minS_eq hs hg i (by omega)
   have hx : l.getD i [] ∈ l := getD_mem (by omega)
   rw [minS, take_succ [] l i (by omega), List.filter_append, ← ih]
   have key : (minS l i).any (fun d => subI d (l.getD i [])) = l.any fun d => decide (d.length < (l.getD i []).length) && subI d (l.getD i []) := by
    rw [Bool.eq_iff_iff, List.any_eq_true, List.any_eq_true]
    constructor
    . rintro ⟨d, hd, h⟩
      rw [ih] at hd
      have hdt := (List.mem_filter.1 hd).1
      have hdl := List.mem_of_mem_take hdt
      refine ⟨d, hdl, ?_⟩
      rw [h, Bool.and_true, decide_eq_true_eq]
      refine sub_lt (hg d hdl).1 (hg _ hx).1 h fun e => ?_
      obtain ⟨j, hj, e2⟩ := List.mem_take_iff_getElem.1 hdt
      have e3 : l.getD i [] = l[i]'(by omega) := by simp [List.getD_eq_getElem?_getD, show i < l.length by omega]
      have := List.pairwise_iff_getElem.1 (srt_nodup hs) j i (by omega) (by omega) (by omega)
      exact this (by rw [e2, e, e3])
    . rintro ⟨d, hd, h⟩
      simp only [Bc, decide_eq_true_eq] at h
      obtain ⟨e, he, h1, h2⟩ := min_below d.length d (Nat.le_refl _) hd
      have hef := List.mem_filter.1 he
      refine ⟨e, ?_, subI_iff.2 fun x hx => subI_iff.1 h.2 x (subI_iff.1 h1 x hx)⟩
      rw [ih]
      refine List.mem_filter.2 ⟨?_, hef.2⟩
      obtain ⟨j, hj, e2⟩ := List.getElem_of_mem hef.1
      refine List.mem_take_iff_getElem.2 ⟨j, ?_, e2⟩
      have e3 : l.getD i [] = l[i]'(by omega) := by simp [List.getD_eq_getElem?_getD, show i < l.length by omega]
      rw [Nat.lt_min]
      refine ⟨?_, hj⟩
      apply Nat.lt_of_not_le
      intro hij
      rcases Nat.lt_or_eq_of_le hij with hij | hij
      . have hb := List.pairwise_iff_getElem.1 hs.1 i j (by omega) hj hij
        rw [← e3, e2, befI_len (by omega), decide_eq_true_eq] at hb
        omega
      . subst hij
        rw [e3, ← e2] at h
        rw [← e2] at h2
        omega
   rw [key, List.filter_cons, List.filter_nil]
   cases l.any fun d => decide (d.length < (l.getD i []).length) && subI d (l.getD i []) <;> simp
theorem minS_all {l : List (List Int)} (hs : Srt l) (hg : ∀ c ∈ l, G6 c) : minS l l.length = minI l := by
 rw [minS_eq hs hg l.length (Nat.le_refl _), List.take_length, minI]
end Abs.Y

namespace Abs
open Go Go.RowKit
theorem flat_intss (cs : List (List Int)) : flat (cs.map D.ints) = cs.map D.ints := flat_one fun x hx => by
 obtain ⟨c, _, rfl⟩ := List.mem_map.1 hx; rfl
theorem Rd.tgs {S : Nat -> Prop} {w : World} {ps : List Tg} {v : Value} (h : Rd S w (.slice (ps.map D.tg)) v) : Rd S w (.slice ((ps.map (·.2)).map D.ints)) v := by
 generalize hx : D.slice (ps.map D.tg) = x at h
 cases h with
 | nil a =>
   have : ps = [] := by
    simp only [D.slice.injEq, List.map_eq_nil_iff] at hx
    exact hx
   subst this
   exact .nil a
 | slice vs hk hcap hc hr =>
   simp only [D.slice.injEq] at hx
   subst hx
   rw [flat_tg] at hc hr
   rw [show (ps.map D.tg).length = ((ps.map (·.2)).map D.ints).length by simp] at *
   refine .slice (k := 1) vs (fun e he => by obtain ⟨c, _, rfl⟩ := List.mem_map.1 he; rfl) (by simpa using hcap) (fun i hi => ?_) fun i hi => ?_
   . rw [flat_intss] at hi
     exact hc i hi
   . rw [flat_intss] at hi ⊢
     have h1 := (hr i hi).strip
     simp only [List.length_map] at hi
     have e1 : (ps.map D.tg).getD i .nilptr = D.tg (ps.getD i (undef, [])) := by simp [List.getD_eq_getElem?_getD, hi]
     have e2 : ((ps.map (·.2)).map D.ints).getD i .nilptr = D.ints (ps.getD i (undef, [])).2 := by simp [List.getD_eq_getElem?_getD, hi]
     rw [e1, strip_tg] at h1
     rw [e2]
     exact h1
 | _ => cases hx
theorem Rd.ptrC {S : Nat -> Prop} {w : World} {x y : D} {v : Value} (hx : x.cells = [x]) (hy : y.cells = [y]) (hc : ∀ v, Rd S w x v -> Rd S w y v) (h : Rd S w (.ptr x) v) : Rd S w (.ptr y) v := by
 cases h with
 | ptr vs h1 h2 =>
   rw [hx] at h1 h2
   refine .ptr vs (fun i hi => ?_) fun i hi => ?_
   . rw [hy] at hi
     exact h1 i hi
   . rw [hy] at hi ⊢
     obtain rfl : i = 0 := by simp at hi; exact hi
     exact hc _ (h2 0 hi)
theorem Ctr.read {P : Program} {f : FuncId} {xs ys : List D} {sh : Bool} {res : AV} {oo : List (Nat × AO)} (h : Ctr P f xs sh res oo) (hl : ys.length = xs.length) (hy : ∀ (S : Nat -> Prop) w i v, i < ys.length -> Rd S w (ys.getD i .nilptr) v -> Rd S w (xs.getD i .nilptr) v) : Ctr P f ys sh res oo :=
 ⟨h.1, fun S w vs hl' hr => h.2 S w vs (by rw [← hl]; exact hl') fun i hi => hy _ _ _ _ (by rw [hl]; exact hi) (hr i (by rw [hl]; exact hi))⟩
end Abs
namespace Abs.Y
open Go Go.Proofs Abs
open Nat renaming reduceEqDiff -> Qa, reduceLT -> Qb, reduceAdd -> Qc, reduceMul -> Qd, reduceSub -> Qe, reduceLeDiff -> Qf, reduceSubDiff -> Qg, reduceBEq -> Qh
open Bool renaming not_eq_true' -> Ba, not_eq_false' -> Bb, and_eq_true -> Bc, or_eq_true -> Bd, or_eq_false_iff -> Be
open Int renaming ofNat_lt -> Ia, ofNat_le -> Ib, not_lt -> Ic, not_le -> Ie
open Decidable renaming not_not -> Da
set_option maxRecDepth 100000

theorem mc11_ok (d c : List Int) (hd : d.length <= 4294967296) (hc : c.length <= 4294967296) : Ctr Try.prog 125 [.ints d, .ptr (.ints c)] false (.d (.bool (decide (d.length < c.length) && subI d c))) [] := by
 have c1 := part_ok d c hd hc
 refine Ctr.of (n := 14) (rs := [.tmp 3]) Try.func125 rfl rfl Try.ntmps125 rfl rfl (by kernel_rfl) Try.checked.mixed ?_
 by_cases h : d.length < c.length
 . rw [decide_eq_true h, Bool.true_and]
   simp (disch := first | omega | decide +kernel) only [D.ints, List.length_map, go_sem, Qa, Qb, Qc, Qd, Qe, ↓reduceIte, reduceCtorEq, Qf, Qg, Qh]
   (repeat' (first | ((first | (refine gsel_split (fun q' => ?_) (fun q' => ?_) <;> (have h' := q') <;> (try simp only [za1, za2, Ba, Bb, za3, ne_eq, za4, za5, za6, Ia, Ib, Ic, Ie, Da, Bc, Bd, Be, za7, za8] at h') <;> try (exfalso; omega)) | (have q' := trivial; first | refine callX_new (c1) rfl (by decide) ?_ | refine callY_new (c1) rfl ?_ | refine hE _ _ ret_ne ?_ | refine hE _ _ exit_ne ?_)) <;> (try simp (disch := first | omega | decide +kernel) only [q', D.ints, List.length_map, go_sem, Qa, Qb, Qc, Qd, Qe, ↓reduceIte, reduceCtorEq, Qf, Qg, Qh]) <;> clear q') | refine hN _ ?_ ?_ Wk.kk | with_reducible refine And.intro ?_ ?_ | with_reducible omega | exact ok_ints | exact cells_ints | exact no_mem | with_reducible exact plain_ints | (refine le_maxLen ?_; omega) | (refine za9 ⟨?_, ?_⟩) | (simp only [go_sem, Qc, Qb, zb1, zb2, forall_eq]; done)))
 . rw [decide_eq_false h, Bool.false_and]
   simp (disch := first | omega | decide +kernel) only [D.ints, List.length_map, go_sem, Qa, Qb, Qc, Qd, Qe, ↓reduceIte, reduceCtorEq, Qf, Qg, Qh]
   (repeat' (first | ((first | (refine gsel_split (fun q' => ?_) (fun q' => ?_) <;> (have h' := q') <;> (try simp only [za1, za2, Ba, Bb, za3, ne_eq, za4, za5, za6, Ia, Ib, Ic, Ie, Da, Bc, Bd, Be, za7, za8] at h') <;> try (exfalso; omega)) | (have q' := trivial; first | refine callX_new (c1) rfl (by decide) ?_ | refine callY_new (c1) rfl ?_ | refine hE _ _ ret_ne ?_ | refine hE _ _ exit_ne ?_)) <;> (try simp (disch := first | omega | decide +kernel) only [q', D.ints, List.length_map, go_sem, Qa, Qb, Qc, Qd, Qe, ↓reduceIte, reduceCtorEq, Qf, Qg, Qh]) <;> clear q') | refine hN _ ?_ ?_ Wk.kk | with_reducible refine And.intro ?_ ?_ | with_reducible omega | exact ok_ints | exact cells_ints | exact no_mem | with_reducible exact plain_ints | (refine le_maxLen ?_; omega) | (refine za9 ⟨?_, ?_⟩) | (simp only [go_sem, Qc, Qb, zb1, zb2, forall_eq]; done)))
theorem mc1_ok (all : List (List Int)) (c : List Int) (hl : all.length <= 4294967296) (hx : ∀ x ∈ all, x.length <= 4294967296) (hc : c.length <= 4294967296) :
 Ctr Try.prog 123 [.ints c, .ptr (.slice (all.map D.ints))] false (.d (.bool (all.any fun d => decide (d.length < c.length) && subI d c))) [] := by
 have c1 := containsFuncL1_ok all 125 (.ptr (.ints c)) (fun d => decide (d.length < c.length) && subI d c) hl fun i hi => mc11_ok _ c (hx _ (getD_mem hi)) hc
 refine Ctr.of (n := 7) (rs := [.tmp 3]) Try.func123 rfl rfl Try.ntmps123 rfl rfl (by kernel_rfl) Try.checked.mixed ?_
 simp (disch := first | omega | decide +kernel) only [D.ints, go_sem, Qa, Qb, Qc, Qd, Qe, ↓reduceIte, reduceCtorEq, Qf, Qg, Qh]
 (repeat' (first | ((first | (refine gsel_split (fun q' => ?_) (fun q' => ?_) <;> (have h' := q') <;> (try simp only [za1, za2, Ba, Bb, za3, ne_eq, za4, za5, za6, Ia, Ib, Ic, Ie, Da, Bc, Bd, Be, za7, za8] at h')) | (have q' := trivial; first | refine callX_new (c1) rfl (by decide) ?_ | refine callY_new (c1) rfl ?_ | refine hE _ _ ret_ne ?_ | refine hE _ _ exit_ne ?_)) <;> (try simp (disch := first | omega | decide +kernel) only [q', D.ints, go_sem, Qa, Qb, Qc, Qd, Qe, ↓reduceIte, reduceCtorEq, Qf, Qg, Qh]) <;> clear q') | refine hN _ ?_ ?_ Wk.kk | with_reducible refine And.intro ?_ ?_ | with_reducible omega | exact ok_ints | exact cells_ints | exact no_mem | with_reducible exact plain_ints | (refine le_maxLen ?_; omega) | (refine za9 ⟨?_, ?_⟩) | (simp only [go_sem, Qc, Qb, zb1, zb2, forall_eq]; done)))
theorem cloneT_ok (ps : List Tg) (hl : ps.length <= 4294967296) : Ctr Try.prog 122 [.slice (ps.map D.tg)] true (.sl 0) [(0, .arr 52 1 (ps.map D.tg))] := by
 have hok : ∀ y ∈ ps.map D.tg, D.ok 1 y := fun y hy => by obtain ⟨q, _, rfl⟩ := List.mem_map.1 hy; exact tg_ok q
 cases ps with
 | nil =>
   refine Ctr.of (n := 8) (rs := [.tmp 2]) Try.func122 rfl rfl Try.ntmps122 rfl rfl (by kernel_rfl) Try.checked.mixed ?_
   simp (disch := first | omega | decide +kernel) only [List.map_nil, go_sem, Qa, Qb, Qc, Qd, Qe, ↓reduceIte, reduceCtorEq, Qf, Qg, Qh]
   intro b hb
   cases b with
   | true =>
     simp (disch := first | omega | decide +kernel) only [go_sem, Qa, Qb, Qc, Qd, Qe, ↓reduceIte, reduceCtorEq, Qf, Qg, Qh]
     (repeat' (first | ((first | (refine gsel_split (fun q' => ?_) (fun q' => ?_) <;> (have h' := q') <;> (try simp only [za1, za2, Ba, Bb, za3, ne_eq, za4, za5, za6, Ia, Ib, Ic, Ie, Da, Bc, Bd, Be, za7, za8] at h')) | (have q' := trivial; first | refine hE _ _ ret_ne ?_ | refine hE _ _ exit_ne ?_)) <;> (try simp (disch := first | omega | decide +kernel) only [q', go_sem, Qa, Qb, Qc, Qd, Qe, ↓reduceIte, reduceCtorEq, Qf, Qg, Qh]) <;> clear q') | refine hN _ ?_ ?_ Wk.kk | with_reducible refine And.intro ?_ ?_ | with_reducible omega | exact ok_ints | exact cells_ints | exact no_mem | with_reducible exact plain_ints | (refine le_maxLen ?_; omega) | (refine za9 ⟨?_, ?_⟩) | (simp only [go_sem, Qc, Qb, zb1, zb2, forall_eq]; done)))
     exact ret_sls 2 rfl rfl
   | false =>
     simp (disch := first | omega | decide +kernel) only [go_sem, Qa, Qb, Qc, Qd, Qe, ↓reduceIte, reduceCtorEq, Qf, Qg, Qh]
     (repeat' (first | ((first | (refine gsel_split (fun q' => ?_) (fun q' => ?_) <;> (have h' := q') <;> (try simp only [za1, za2, Ba, Bb, za3, ne_eq, za4, za5, za6, Ia, Ib, Ic, Ie, Da, Bc, Bd, Be, za7, za8] at h')) | (have q' := trivial; first | refine hE _ _ ret_ne ?_ | refine hE _ _ exit_ne ?_)) <;> (try simp (disch := first | omega | decide +kernel) only [q', go_sem, Qa, Qb, Qc, Qd, Qe, ↓reduceIte, reduceCtorEq, Qf, Qg, Qh]) <;> clear q') | refine hN _ ?_ ?_ Wk.kk | with_reducible refine And.intro ?_ ?_ | with_reducible omega | exact ok_ints | exact cells_ints | exact no_mem | with_reducible exact plain_ints | (refine le_maxLen ?_; omega) | (refine za9 ⟨?_, ?_⟩) | (simp only [go_sem, Qc, Qb, zb1, zb2, forall_eq]; done)))
     exact ret_sls 5 rfl rfl
 | cons q r =>
   simp only [List.map_cons, List.mem_cons, List.length_cons] at hok hl
   refine Ctr.of (n := 8) (rs := [.tmp 2]) Try.func122 rfl rfl Try.ntmps122 rfl rfl (by kernel_rfl) Try.checked.mixed ?_
   simp (disch := first | omega | decide +kernel) only [List.map_cons, List.length_cons, List.length_map, go_sem, Qa, Qb, Qc, Qd, Qe, ↓reduceIte, reduceCtorEq, Qf, Qg, Qh]
   (repeat' (first | ((first | (refine gsel_split (fun q' => ?_) (fun q' => ?_) <;> (have h' := q') <;> (try simp only [za1, za2, Ba, Bb, za3, ne_eq, za4, za5, za6, Ia, Ib, Ic, Ie, Da, Bc, Bd, Be, za7, za8] at h')) | (have q' := trivial; first | refine hE _ _ ret_ne ?_ | refine hE _ _ exit_ne ?_)) <;> (try simp (disch := first | omega | decide +kernel) only [q', List.map_cons, List.length_cons, List.length_map, go_sem, Qa, Qb, Qc, Qd, Qe, ↓reduceIte, reduceCtorEq, Qf, Qg, Qh]) <;> clear q') | refine hN _ ?_ ?_ Wk.kk | with_reducible refine And.intro ?_ ?_ | with_reducible omega | exact ok_ints | exact cells_ints | exact no_mem | with_reducible exact plain_ints | (refine le_maxLen ?_; omega) | (refine za9 ⟨?_, ?_⟩) | (simp only [go_sem, Qc, Qb, zb1, zb2, forall_eq]; done)))
   all_goals (first | exact hok _ (.inl rfl) | exact (fun y hy => hok y (.inr hy)) | exact le_maxLen (by omega) | omega | exact ret_sls 5 rfl rfl)
noncomputable def minC (v : Int) (cs : List (List Int)) (w : Int) : List (List Int) := if goodN v cs w then minI (closV cs w.toNat) else []
theorem implMin_ok (v : Int) (cs : List (List Int)) (w : Int) (hl : cs.length <= 1048576) (hc : ∀ j, (cs.getD j []).length <= 1048576) :
 Ctr Try.prog 47 [.agg [.int .i64 v, .slice (cs.map D.ints)], .int .i64 w] false (.tup [.sl 0, .d (.bool (goodN v cs w))]) [(0, .dp (some (52, 1)) ((minC v cs w).map D.ints) none)] := by
 have c1 := closureAt_ok v cs w hl hc
 unfold minC
 cases h : goodN v cs w with
 | false =>
   rw [h] at c1
   rw [if_neg (by decide)]
   refine Ctr.ofK (n := 20) (rs := [.tmp 4, .tmp 5]) Try.func47 rfl rfl Try.ntmps47 rfl rfl (by kernel_rfl) Try.checked.mixed ?_
   refine Ok.endsW ?_
   refine Ok.go ?_
   simp (disch := first | omega | decide +kernel) only [List.map_nil, go_sem, Qa, Qb, Qc, Qd, Qe, ↓reduceIte, reduceCtorEq, Qf, Qg, Qh]
   (repeat' (first | ((first | (refine gsel_split (fun q' => ?_) (fun q' => ?_) <;> (have h' := q') <;> (try simp only [za1, za2, Ba, Bb, za3, ne_eq, za4, za5, za6, Ia, Ib, Ic, Ie, Da, Bc, Bd, Be, za7, za8] at h')) | (have q' := trivial; first | refine callX_new (c1) rfl (by decide) ?_ | refine callY_new (c1) rfl ?_ | refine hE _ _ ret_ne ?_ | refine hE _ _ exit_ne ?_)) <;> (try simp (disch := first | omega | decide +kernel) only [q', List.map_nil, go_sem, Qa, Qb, Qc, Qd, Qe, ↓reduceIte, reduceCtorEq, Qf, Qg, Qh]) <;> clear q') | refine hN _ ?_ ?_ Wk.kk | with_reducible refine And.intro ?_ ?_ | with_reducible omega | exact ok_ints | exact cells_ints | exact no_mem | with_reducible exact plain_ints | (refine le_maxLen ?_; omega) | (refine za9 ⟨?_, ?_⟩) | (simp only [go_sem, Qc, Qb, zb1, zb2, forall_eq]; done)))
   all_goals exact ⟨_, Wk.deep 4 rfl (by simp [flat]), ret_dpd 4 rfl rfl rfl rfl⟩
 | true =>
   rw [h] at c1
   rw [closI, if_pos h] at c1
   rw [if_pos rfl]
   obtain ⟨g1, g2, g3, g4⟩ := good6 h
   have hcl := closV_len (w := w.toNat) g1
   have hcg := closV_g6 (w := w.toNat) g1
   generalize closV cs w.toNat = A at *
   refine Ctr.ofK (n := 20) (rs := [.tmp 4, .tmp 5]) Try.func47 rfl rfl Try.ntmps47 rfl rfl (by kernel_rfl) Try.checked.mixed ?_
   refine Ok.endsW ?_
   refine Ok.seq (Ok.go ?_)
   simp (disch := first | omega | decide +kernel) only [go_sem, Qa, Qb, Qc, Qd, Qe, ↓reduceIte, reduceCtorEq, Qf, Qg, Qh]
   refine Ok.seq (Ok.go ?_)
   simp (disch := first | omega | decide +kernel) only [go_sem, Qa, Qb, Qc, Qd, Qe, ↓reduceIte, reduceCtorEq, Qf, Qg, Qh]
   (repeat' (first | ((first | (refine gsel_split (fun q' => ?_) (fun q' => ?_) <;> (have h' := q') <;> (try simp only [za1, za2, Ba, Bb, za3, ne_eq, za4, za5, za6, Ia, Ib, Ic, Ie, Da, Bc, Bd, Be, za7, za8] at h') <;> try (exfalso; omega)) | (have q' := trivial; first | refine callX_new (c1) rfl (by decide) ?_ | refine callY_new (c1) rfl ?_ | refine hE _ _ ret_ne ?_ | refine hE _ _ exit_ne ?_)) <;> (try simp (disch := first | omega | decide +kernel) only [q', go_sem, Qa, Qb, Qc, Qd, Qe, ↓reduceIte, reduceCtorEq, Qf, Qg, Qh]) <;> clear q') | refine hN _ ?_ ?_ Wk.kk | with_reducible refine And.intro ?_ ?_ | with_reducible omega | exact ok_ints | exact cells_ints | exact no_mem | with_reducible exact plain_ints | (refine le_maxLen ?_; omega) | (refine za9 ⟨?_, ?_⟩) | (simp only [go_sem, Qc, Qb, zb1, zb2, forall_eq]; done)))
   refine Ok.seq (Ok.go ?_)
   simp (disch := first | omega | decide +kernel) only [go_sem, Qa, Qb, Qc, Qd, Qe, ↓reduceIte, reduceCtorEq, Qf, Qg, Qh]
   (repeat' (first | ((first | (refine gsel_split (fun q' => ?_) (fun q' => ?_) <;> (have h' := q') <;> (try simp only [za1, za2, Ba, Bb, za3, ne_eq, za4, za5, za6, Ia, Ib, Ic, Ie, Da, Bc, Bd, Be, za7, za8] at h') <;> try (exfalso; omega)) | (have q' := trivial; first | refine hE _ _ ret_ne ?_ | refine hE _ _ exit_ne ?_)) <;> (try simp (disch := first | omega | decide +kernel) only [q', go_sem, Qa, Qb, Qc, Qd, Qe, ↓reduceIte, reduceCtorEq, Qf, Qg, Qh]) <;> clear q') | refine hN _ ?_ ?_ Wk.kk | with_reducible refine And.intro ?_ ?_ | with_reducible omega | exact ok_ints | exact cells_ints | exact no_mem | with_reducible exact plain_ints | (refine le_maxLen ?_; omega) | (refine za9 ⟨?_, ?_⟩) | (simp only [go_sem, Qc, Qb, zb1, zb2, forall_eq]; done)))
   refine Ok.tag1 1200000 900000001 (by decide) (cs := A) rfl fun ps hps => ?_
   have hpl : ps.length = A.length := by rw [← hps, List.length_map]
   have hpA : ∀ q ∈ ps, q.2 ∈ A := fun q hq => by rw [← hps]; exact List.mem_map.2 ⟨q, hq, rfl⟩
   have c2 := cloneT_ok ps (by omega)
   have hcm : ∀ q ∈ ps, Ctr Try.prog 123 [D.tg q, .ptr (.slice (ps.map D.tg))] false (.d (.bool (A.any fun d => decide (d.length < q.2.length) && subI d q.2))) [] := fun q hq =>
    (mc1_ok A q.2 (by omega) (fun x hx => by have := g6_len (hcg x hx); omega) (by have := g6_len (hcg _ (hpA q hq)); omega)).read rfl fun S w i v hi hr => by
     match i, hi with
     | 0, _ => have := Rd.strip hr; rw [show [D.tg q, D.ptr (.slice (ps.map D.tg))].getD 0 .nilptr = D.tg q from rfl, strip_tg] at this; exact this
     | 1, _ => rw [← hps]; exact Rd.ptrC rfl rfl (fun v h => h.tgs) hr
   have c3 := deleteT1_ok ps 123 (.ptr (.slice (ps.map D.tg))) (fun c => A.any fun d => decide (d.length < c.length) && subI d c) (by omega) hcm
   refine Ok.weak (Wk.frz (j := 1200000) rfl) ?_
   simp (disch := first | omega | decide +kernel) only [St.frz, frzS, frzO, AV.frz, AV.frzL, AO.frz, go_sem, Qa, Qb, Qc, Qd, Qe, ↓reduceIte, reduceCtorEq, Qf, Qg, Qh]
   refine Ok.weak (Wk.bfz 6 (.slice (ps.map D.tg)) rfl rfl) ?_
   simp (disch := first | omega | decide +kernel) only [bfzS, bfzO, AV.bfz, AV.bfzL, AO.bfz, go_sem, Qa, Qb, Qc, Qd, Qe, ↓reduceIte, reduceCtorEq, Qf, Qg, Qh]
   refine Ok.go ?_
   simp (disch := first | omega | decide +kernel) only [go_sem, Qa, Qb, Qc, Qd, Qe, ↓reduceIte, reduceCtorEq, Qf, Qg, Qh]
   (repeat' (first | ((first | (refine gsel_split (fun q' => ?_) (fun q' => ?_) <;> (have h' := q') <;> (try simp only [za1, za2, Ba, Bb, za3, ne_eq, za4, za5, za6, Ia, Ib, Ic, Ie, Da, Bc, Bd, Be, za7, za8] at h') <;> try (exfalso; omega)) | (have q' := trivial; first | refine callX_shared (c2) rfl (by decide) ?_ | refine callY_shared (c2) rfl ?_ | refine hE _ _ ret_ne ?_ | refine hE _ _ exit_ne ?_)) <;> (try simp (disch := first | omega | decide +kernel) only [q', go_sem, Qa, Qb, Qc, Qd, Qe, ↓reduceIte, reduceCtorEq, Qf, Qg, Qh]) <;> clear q') | refine hN _ ?_ ?_ Wk.kk | with_reducible refine And.intro ?_ ?_ | with_reducible omega | exact ok_ints | exact cells_ints | exact no_mem | with_reducible exact plain_ints | (refine le_maxLen ?_; omega) | (refine za9 ⟨?_, ?_⟩) | (simp only [go_sem, Qc, Qb, zb1, zb2, forall_eq]; done)))
   refine callX_mut [1800000] [2000000] [1800000, 2000000] c3 ⟨.inl rfl, .inl rfl, trivial⟩ ⟨rfl, trivial⟩ rfl (by simp [dstB]) ?_
   simp (disch := first | omega | decide +kernel) only [go_sem, Qa, Qb, Qc, Qd, Qe, ↓reduceIte, reduceCtorEq, Qf, Qg, Qh]
   (repeat' (first | ((first | (refine gsel_split (fun q' => ?_) (fun q' => ?_) <;> (have h' := q') <;> (try simp only [za1, za2, Ba, Bb, za3, ne_eq, za4, za5, za6, Ia, Ib, Ic, Ie, Da, Bc, Bd, Be, za7, za8] at h') <;> try (exfalso; omega)) | (have q' := trivial; first | refine hE _ _ ret_ne ?_ | refine hE _ _ exit_ne ?_)) <;> (try simp (disch := first | omega | decide +kernel) only [q', go_sem, Qa, Qb, Qc, Qd, Qe, ↓reduceIte, reduceCtorEq, Qf, Qg, Qh]) <;> clear q') | refine hN _ ?_ ?_ Wk.kk | with_reducible refine And.intro ?_ ?_ | with_reducible omega | exact ok_ints | exact cells_ints | exact no_mem | with_reducible exact plain_ints | (refine le_maxLen ?_; omega) | (refine za9 ⟨?_, ?_⟩) | (simp only [go_sem, Qc, Qb, zb1, zb2, forall_eq]; done)))
   have hq : ((ps.filter fun q => !(A.any fun d => decide (d.length < q.2.length) && subI d q.2)).map fun p : Tg => D.slice (p.2.map (.int .i64))) = (minI A).map D.ints := by
    rw [minI, ← hps, List.filter_map, List.map_map]; rfl
   refine ⟨_, Wk.thaw1 (S' := [(5, .d (.bool true)), (4, .sl 2000000)]) (O' := [(2000000, .dp (some (52, 1)) ((ps.filter fun q => !(A.any fun d => decide (d.length < q.2.length) && subI d q.2)).map fun p => .slice (p.2.map (.int .i64))) none)]) 2000000 900000001 rfl rfl ⟨ps, List.Perm.refl _, List.filter_sublist⟩ ?_ ?_, ?_⟩
   . intro p hp
     simp only [List.mem_cons, List.not_mem_nil, or_false] at hp
     rcases hp with rfl | rfl
     . exact ⟨rfl, rfl⟩
     . exact ⟨rfl, trivial⟩
   . intro p hp
     simp only [List.mem_cons, List.not_mem_nil, or_false] at hp
     subst hp
     exact .inl ⟨rfl, rfl⟩
   . rw [hq]
     exact ret_dpd 2000000 rfl rfl rfl rfl
end Abs.Y
