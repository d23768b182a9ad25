/- What functions of this program compute, as contracts over plain data, with what the proofs need of them. No condition. -/
import Derived.Test.YtcpflbfcglcjfaaE12
set_option linter.all false
namespace Abs.Y
open Go Go.Proofs Abs
open Nat renaming reduceEqDiff -> Qa, reduceLT -> Qb, reduceAdd -> Qc, reduceMul -> Qd, reduceSub -> Qe, reduceLeDiff -> Qf, reduceSubDiff -> Qg, reduceBEq -> Qh
open Bool renaming not_eq_true' -> Ba, not_eq_false' -> Bb, and_eq_true -> Bc, or_eq_true -> Bd, or_eq_false_iff -> Be
open Int renaming ofNat_lt -> Ia, ofNat_le -> Ib, not_lt -> Ic, not_le -> Ie
open Decidable renaming not_not -> Da
set_option maxRecDepth 100000

@[reducible] def cpT (ps : List Tg) (i : Nat) : List Tg := cmpA zTg (fun q : Tg => q.2) ps i
theorem cpT_add (ps : List Tg) (i : Nat) : ∀ m, (cpT ps (i + m)).length <= (cpT ps i).length + m
 | 0 => Nat.le_refl _
 | m + 1 => by
   have ih := cpT_add ps i m
   rw [← Nat.add_assoc]
   unfold cpT at *
   rw [cmpA]
   split
   . rw [List.length_append, List.length_singleton]; omega
   . omega
theorem el_keep {ps K : List Tg} {i : Nat} (h1 : K.length <= i) (h2 : i < ps.length) : el ((K ++ ps.drop K.length).map D.tg) i = D.tg (ps.getD i zTg) := by
 rw [el_tg (z := zTg) (by rw [List.length_append, List.length_drop]; omega)]
 congr 1
 rw [getD_app, if_neg (by omega), List.getD_eq_getElem?_getD, List.getElem?_drop, ← List.getD_eq_getElem?_getD]
 congr 1
 omega
theorem equalT_ok (p q : Tg) (hp : p.2.length <= 4294967296) : Ctr Try.prog 104 [D.tg p, D.tg q] false (.d (.bool (decide (p.2 = q.2)))) [] :=
 (equal_ok p.2 q.2 hp).strip (by simp only [D.stripL, strip_tg]; rfl)
set_option maxHeartbeats 16000000 in
theorem compactT_ok (ps : List Tg) (hl : ps.length <= 1048576) (hx : ∀ p ∈ ps, p.2.length <= 4294967296) :
 CtrM Try.prog 103 [.sl 0, .fn (.func 104) []] [(0, .arr 52 1 (ps.map D.tg))] [] true (.sl 0) [(0, .arr 52 1 ((cpT ps ps.length).map D.tg))] := by
 refine CtrR.eq ?_
 refine CtrR.ofO (n := 66) (rs := [.tmp 4]) Try.func103 rfl rfl Try.ntmps103 rfl rfl (by kernel_rfl) Try.checked.mixed ?_; intro u
 refine Ok.weak Wk.cutOn ?_
 simp (disch := first | omega | decide +kernel) only [ins, cutKey, go_sem, Qa, Qb, Qc, Qd, Qe, ↓reduceIte, reduceCtorEq, Qf, Qg, Qh]
 refine Ok.seq (Ok.go ?_)
 simp (disch := first | omega | decide +kernel) only [go_sem, Qa, Qb, Qc, Qd, Qe, ↓reduceIte, reduceCtorEq, Qf, Qg, Qh]
 by_cases h2 : ps.length < 2
 . have hcp : cpT ps ps.length = ps := by
    match ps, h2 with
    | [], _ => rfl
    | [p], _ => rfl
   rw [hcp]
   refine Ok.go ?_
   simp (disch := first | omega | decide +kernel) only [List.length_map, go_sem, Qa, Qb, Qc, Qd, Qe, ↓reduceIte, reduceCtorEq, Qf, Qg, Qh]
   (repeat' (first | ((first | (refine gsel_split (fun q' => ?_) (fun q' => ?_) <;> (have h' := q') <;> (try simp only [za1, za2, Ba, Bb, za3, ne_eq, za4, za5, za6, Ia, Ib, Ic, Ie, Da, Bc, Bd, Be, za7, za8] at h') <;> try (exfalso; omega)) | (have q' := trivial; first | refine hE _ _ ret_ne ?_ | refine hE _ _ exit_ne ?_)) <;> (try simp (disch := first | omega | decide +kernel) only [q', List.length_map, go_sem, Qa, Qb, Qc, Qd, Qe, ↓reduceIte, reduceCtorEq, Qf, Qg, Qh]) <;> clear q') | refine hN _ ?_ ?_ Wk.kk | with_reducible refine And.intro ?_ ?_ | with_reducible omega | exact ok_ints | exact cells_ints | exact no_mem | with_reducible exact plain_ints | (refine le_maxLen ?_; omega) | (refine za9 ⟨?_, ?_⟩) | (simp only [go_sem, Qc, Qb, zb1, zb2, forall_eq]; done)))
   all_goals exact ⟨_, _, ⟨rfl, rfl⟩, retM_s1x 0 rfl rfl fun _ => rfl⟩
 refine Ok.seq (Ok.go ?_)
 simp (disch := first | omega | decide +kernel) only [List.length_map, go_sem, Qa, Qb, Qc, Qd, Qe, ↓reduceIte, reduceCtorEq, Qf, Qg, Qh]
 (repeat' (first | ((first | (refine gsel_split (fun q' => ?_) (fun q' => ?_) <;> (have h' := q') <;> (try simp only [za1, za2, Ba, Bb, za3, ne_eq, za4, za5, za6, Ia, Ib, Ic, Ie, Da, Bc, Bd, Be, za7, za8] at h') <;> try (exfalso; omega)) | (have q' := trivial; first | refine hE _ _ ret_ne ?_ | refine hE _ _ exit_ne ?_)) <;> (try simp (disch := first | omega | decide +kernel) only [q', List.length_map, go_sem, Qa, Qb, Qc, Qd, Qe, ↓reduceIte, reduceCtorEq, Qf, Qg, Qh]) <;> clear q') | refine hN _ ?_ ?_ Wk.kk | with_reducible refine And.intro ?_ ?_ | with_reducible omega | exact ok_ints | exact cells_ints | exact no_mem | with_reducible exact plain_ints | (refine le_maxLen ?_; omega) | (refine za9 ⟨?_, ?_⟩) | (simp only [go_sem, Qc, Qb, zb1, zb2, forall_eq]; done)))
 refine Ok.seq (Ok.seq (Ok.go ?_))
 simp (disch := first | omega | decide +kernel) only [go_sem, Qa, Qb, Qc, Qd, Qe, ↓reduceIte, reduceCtorEq, Qf, Qg, Qh]
 refine Ok.block ?_
 refine Ok.loopNO [65, 64, 63, 62, 61, 60, 59, 58, 57, 56, 55, 54, 53, 52, 51, 50, 49, 48, 47, 46, 45, 44, 43, 42, 41, 40, 39, 38, 37, 36, 35, 34, 33, 32, 31, 30, 29, 28, 27, 26, 25, 24, 23, 22, 21, 20, 19, 18, 17, 16, 15, 14, 13, 12, 11, 10, 9, 8, 7, 6, 5, 4, 3, 2] (fun i (_ : Unit) => [(5, .d (.int .i64 (1 + (i : Nat))))]) (fun _ _ => []) (ps.length - 1) (fun i _ => cpT ps (1 + i) = ps.take (1 + i)) () ?_ (by refine Wk.auto ?_ ?_ <;> simp [extraK, lk, killL, St.kill, wipeO, wipeS, AV.has, AV.hasL, AO.wipe, List.map_set, updSt, insL, dropS, ins, ]) ?_
 . match ps, h2 with
   | p :: r, _ => rfl
 rintro R i _ hN hE hi hI
 have ht1 : ((1 : Int) + (i : Nat)).toNat = 1 + i := by omega
 by_cases hlt : i < ps.length - 1
 . have e1 : el (ps.map D.tg) (1 + i) = D.tg (ps.getD (1 + i) zTg) := el_tg (by omega)
   have e0 : el (ps.map D.tg) i = D.tg (ps.getD i zTg) := el_tg (by omega)
   have hx1 := hx _ (getD_mem (z := zTg) (show 1 + i < ps.length by omega))
   have c1 := equalT_ok (ps.getD (1 + i) zTg) (ps.getD i zTg) hx1
   have ht0 : ((1 : Int) + (i : Nat) - 1).toNat = i := by omega
   refine Ok.seq (Ok.go ?_)
   simp (disch := first | omega | decide +kernel) only [List.length_map, go_sem, Qa, Qb, Qc, Qd, Qe, ↓reduceIte, reduceCtorEq, Qf, Qg, Qh]
   (repeat' (first | ((first | (refine gsel_split (fun q' => ?_) (fun q' => ?_) <;> (have h' := q') <;> (try simp only [za1, za2, Ba, Bb, za3, ne_eq, za4, za5, za6, Ia, Ib, Ic, Ie, Da, Bc, Bd, Be, za7, za8] at h') <;> try (exfalso; omega)) | (have q' := trivial; first | refine hE _ _ ret_ne ?_ | refine hE _ _ exit_ne ?_)) <;> (try simp (disch := first | omega | decide +kernel) only [q', List.length_map, go_sem, Qa, Qb, Qc, Qd, Qe, ↓reduceIte, reduceCtorEq, Qf, Qg, Qh]) <;> clear q') | refine hN _ ?_ ?_ Wk.kk | with_reducible refine And.intro ?_ ?_ | with_reducible omega | exact ok_ints | exact cells_ints | exact no_mem | with_reducible exact plain_ints | (refine le_maxLen ?_; omega) | (refine za9 ⟨?_, ?_⟩) | (simp only [go_sem, Qc, Qb, zb1, zb2, forall_eq]; done)))
   by_cases heq : (ps.getD (1 + i) zTg).2 = (ps.getD i zTg).2
   . rw [decide_eq_true heq] at c1
     have hK0 : cpT ps (1 + i + 1) = ps.take (1 + i) := by
      rw [← hI]
      unfold cpT
      rw [cmpA, if_neg (by rintro (h | h); · omega
                           . exact h (by rw [show 1 + i - 1 = i by omega]; exact heq))]
     clear hN
     refine Ok.seq (Ok.block (Ok.seq (Ok.go ?_)))
     simp (disch := first | omega | decide +kernel) only [ht1, ht0, e1, e0, tg_cells, tg_agg, List.length_map, go_sem, Qa, Qb, Qc, Qd, Qe, ↓reduceIte, reduceCtorEq, Qf, Qg, Qh]
     (repeat' (first | ((first | (refine gsel_split (fun q' => ?_) (fun q' => ?_) <;> (have h' := q') <;> (try simp only [za1, za2, Ba, Bb, za3, ne_eq, za4, za5, za6, Ia, Ib, Ic, Ie, Da, Bc, Bd, Be, za7, za8] at h') <;> try (exfalso; omega)) | (have q' := trivial; first | refine callX_new (c1) rfl (by decide) ?_ | refine callY_new (c1) rfl ?_ | refine hE _ _ ret_ne ?_ | refine hE _ _ exit_ne ?_)) <;> (try simp (disch := first | omega | decide +kernel) only [q', ht1, ht0, e1, e0, tg_cells, tg_agg, List.length_map, go_sem, Qa, Qb, Qc, Qd, Qe, ↓reduceIte, reduceCtorEq, Qf, Qg, Qh]) <;> clear q') | refine hN _ ?_ ?_ Wk.kk | with_reducible refine And.intro ?_ ?_ | with_reducible omega | exact ok_ints | exact cells_ints | exact no_mem | with_reducible exact plain_ints | (refine le_maxLen ?_; omega) | (refine za9 ⟨?_, ?_⟩) | (simp only [go_sem, Qc, Qb, zb1, zb2, forall_eq]; done)))
     refine Ok.go ?_
     simp (disch := first | omega | decide +kernel) only [go_sem, Qa, Qb, Qc, Qd, Qe, ↓reduceIte, reduceCtorEq, Qf, Qg, Qh]
     (repeat' (first | ((first | (refine gsel_split (fun q' => ?_) (fun q' => ?_) <;> (have h' := q') <;> (try simp only [za1, za2, Ba, Bb, za3, ne_eq, za4, za5, za6, Ia, Ib, Ic, Ie, Da, Bc, Bd, Be, za7, za8] at h') <;> try (exfalso; omega)) | (have q' := trivial; first | refine hE _ _ ret_ne ?_ | refine hE _ _ exit_ne ?_)) <;> (try simp (disch := first | omega | decide +kernel) only [q', go_sem, Qa, Qb, Qc, Qd, Qe, ↓reduceIte, reduceCtorEq, Qf, Qg, Qh]) <;> clear q') | refine hN _ ?_ ?_ Wk.kk | with_reducible refine And.intro ?_ ?_ | with_reducible omega | exact ok_ints | exact cells_ints | exact no_mem | with_reducible exact plain_ints | (refine le_maxLen ?_; omega) | (refine za9 ⟨?_, ?_⟩) | (simp only [go_sem, Qc, Qb, zb1, zb2, forall_eq]; done)))
     have hKl := cpT_add ps (1 + i + 1)
     rw [hK0, List.length_take] at hKl
     have hK1 : cpT ps (1 + i + 1 + 0) = ps.take (1 + i) := hK0
     have hti : (ps.take (1 + i)).length = 1 + i := by rw [List.length_take]; omega
     simp (disch := first | omega | decide +kernel) only [ht1, go_sem, Qa, Qb, Qc, Qd, Qe, ↓reduceIte, reduceCtorEq, Qf, Qg, Qh]
     refine Ok.loopNO [65, 64, 63, 62, 61, 60, 59, 58, 57, 56, 55, 54, 53, 52, 51, 50, 49, 48, 47, 46, 45, 44, 43, 42, 41, 40, 39, 38, 37, 36, 35, 34, 33, 32, 31, 30, 29, 28, 27, 26, 25, 24, 23, 22, 21, 20, 19, 18, 17, 16, 15, 14, 13, 12, 11, 10, 9, 8, 7, 5, 4, 3, 2] (fun m (_ : Unit) => [(7, .d (.int .i64 (1 + (m : Nat)))), (5, .d (.int .i64 ((cpT ps (1 + i + 1 + m)).length : Nat)))]) (fun m _ => [(0, .arr 52 1 ((cpT ps (1 + i + 1 + m) ++ ps.drop (cpT ps (1 + i + 1 + m)).length).map D.tg))]) (ps.length - (1 + i + 1)) (fun _ _ => True) () trivial (by refine Wk.auto ?_ ?_ <;> simp [extraK, lk, killL, St.kill, wipeO, wipeS, AV.has, AV.hasL, AO.wipe, List.map_set, updSt, insL, dropS, ins, hK1, hti, List.take_append_drop]) ?_
     rintro R2 m _ hN2 hE2 hm _
     have hKm : (cpT ps (1 + i + 1 + m)).length <= 1 + i + m := by have := hKl m; omega
     have hrl : (cpT ps (1 + i + 1 + m) ++ ps.drop (cpT ps (1 + i + 1 + m)).length).length = ps.length := by rw [List.length_append, List.length_drop]; omega
     have hm1 : ((1 : Int) + (m : Nat)).toNat = 1 + m := by omega
     have hm0 : ((1 : Int) + (m : Nat) - 1).toNat = m := by omega
     clear hK0 hK1 hti
     by_cases hlm : m < ps.length - (1 + i + 1)
     . have f1 := el_keep (ps := ps) (K := cpT ps (1 + i + 1 + m)) (i := 1 + i + (1 + m)) (by omega) (by omega)
       have f0 := el_keep (ps := ps) (K := cpT ps (1 + i + 1 + m)) (i := 1 + i + m) (by omega) (by omega)
       have fk : (el ((cpT ps (1 + i + 1 + m) ++ ps.drop (cpT ps (1 + i + 1 + m)).length).map D.tg) (cpT ps (1 + i + 1 + m)).length).isAgg = false := by
        rw [el_keep (Nat.le_refl _) (by omega)]; exact tg_agg _
       have hst := set_keep (ps.getD (1 + i + (1 + m)) zTg) (A := cpT ps (1 + i + 1 + m)) (l := ps) (by omega)
       have hst2 : ((cpT ps (1 + i + 1 + m) ++ ps.drop (cpT ps (1 + i + 1 + m)).length).map D.tg).set (cpT ps (1 + i + 1 + m)).length (D.tg (ps.getD (1 + i + (1 + m)) zTg)) = ((cpT ps (1 + i + 1 + m) ++ [ps.getD (1 + i + (1 + m)) zTg]) ++ ps.drop (cpT ps (1 + i + 1 + m) ++ [ps.getD (1 + i + (1 + m)) zTg]).length).map D.tg := by
        rw [← hst, List.map_set]
       have hx2 := hx _ (getD_mem (z := zTg) (show 1 + i + (1 + m) < ps.length by omega))
       have c2 := equalT_ok (ps.getD (1 + i + (1 + m)) zTg) (ps.getD (1 + i + m) zTg) hx2
       have hnx : cpT ps (1 + i + 1 + (m + 1)) = if (ps.getD (1 + i + (1 + m)) zTg).2 = (ps.getD (1 + i + m) zTg).2 then cpT ps (1 + i + 1 + m) else cpT ps (1 + i + 1 + m) ++ [ps.getD (1 + i + (1 + m)) zTg] := by
        rw [show 1 + i + 1 + (m + 1) = 1 + i + (1 + m) + 1 by omega]
        unfold cpT
        rw [cmpA, show 1 + i + 1 + m = 1 + i + (1 + m) by omega, show 1 + i + (1 + m) - 1 = 1 + i + m by omega]
        by_cases h : (ps.getD (1 + i + (1 + m)) zTg).2 = (ps.getD (1 + i + m) zTg).2
        . rw [if_pos h, if_neg (by rintro (h1 | h1); · omega
                                   . exact h1 h)]
        . rw [if_neg h, if_pos (.inr h)]
       clear hst hKl
       generalize cpT ps (1 + i + 1 + m) = K at *
       generalize ps.getD (1 + i + (1 + m)) zTg = x at *
       generalize ps.getD (1 + i + m) zTg = y at *
       refine Ok.seq (Ok.go ?_)
       simp (disch := first | omega | decide +kernel) only [ht1, hrl, List.length_map, go_sem, Qa, Qb, Qc, Qd, Qe, ↓reduceIte, reduceCtorEq, Qf, Qg, Qh]
       (repeat' (first | ((first | (refine gsel_split (fun q' => ?_) (fun q' => ?_) <;> (have h' := q') <;> (try simp only [za1, za2, Ba, Bb, za3, ne_eq, za4, za5, za6, Ia, Ib, Ic, Ie, Da, Bc, Bd, Be, za7, za8] at h') <;> try (exfalso; omega)) | (have q' := trivial; first | refine hE _ _ ret_ne ?_ | refine hE _ _ exit_ne ?_)) <;> (try simp (disch := first | omega | decide +kernel) only [q', ht1, hrl, List.length_map, go_sem, Qa, Qb, Qc, Qd, Qe, ↓reduceIte, reduceCtorEq, Qf, Qg, Qh]) <;> clear q') | refine hN _ ?_ ?_ Wk.kk | with_reducible refine And.intro ?_ ?_ | with_reducible omega | exact ok_ints | exact cells_ints | exact no_mem | with_reducible exact plain_ints | (refine le_maxLen ?_; omega) | (refine za9 ⟨?_, ?_⟩) | (simp only [go_sem, Qc, Qb, zb1, zb2, forall_eq]; done)))
       by_cases hxy : x.2 = y.2
       . rw [decide_eq_true hxy] at c2
         rw [if_pos hxy] at hnx
         refine Ok.seq (Ok.block (Ok.seq (Ok.go ?_)))
         simp (disch := first | omega | decide +kernel) only [ht1, hm1, hm0, hrl, f1, f0, tg_cells, tg_agg, List.length_map, go_sem, Qa, Qb, Qc, Qd, Qe, ↓reduceIte, reduceCtorEq, Qf, Qg, Qh]
         (repeat' (first | ((first | (refine gsel_split (fun q' => ?_) (fun q' => ?_) <;> (have h' := q') <;> (try simp only [za1, za2, Ba, Bb, za3, ne_eq, za4, za5, za6, Ia, Ib, Ic, Ie, Da, Bc, Bd, Be, za7, za8] at h') <;> try (exfalso; omega)) | (have q' := trivial; first | refine callX_new (c2) rfl (by decide) ?_ | refine callY_new (c2) rfl ?_ | refine hE _ _ ret_ne ?_ | refine hE _ _ exit_ne ?_)) <;> (try simp (disch := first | omega | decide +kernel) only [q', ht1, hm1, hm0, hrl, f1, f0, tg_cells, tg_agg, List.length_map, go_sem, Qa, Qb, Qc, Qd, Qe, ↓reduceIte, reduceCtorEq, Qf, Qg, Qh]) <;> clear q') | refine hN _ ?_ ?_ Wk.kk | with_reducible refine And.intro ?_ ?_ | with_reducible omega | exact ok_ints | exact cells_ints | exact no_mem | with_reducible exact plain_ints | (refine le_maxLen ?_; omega) | (refine za9 ⟨?_, ?_⟩) | (simp only [go_sem, Qc, Qb, zb1, zb2, forall_eq]; done)))
         refine Ok.go ?_
         simp (disch := first | omega | decide +kernel) only [go_sem, Qa, Qb, Qc, Qd, Qe, ↓reduceIte, reduceCtorEq, Qf, Qg, Qh]
         (repeat' (first | ((first | (refine gsel_split (fun q' => ?_) (fun q' => ?_) <;> (have h' := q') <;> (try simp only [za1, za2, Ba, Bb, za3, ne_eq, za4, za5, za6, Ia, Ib, Ic, Ie, Da, Bc, Bd, Be, za7, za8] at h') <;> try (exfalso; omega)) | (have q' := trivial; first | refine hE _ _ ret_ne ?_ | refine hE _ _ exit_ne ?_)) <;> (try simp (disch := first | omega | decide +kernel) only [q', go_sem, Qa, Qb, Qc, Qd, Qe, ↓reduceIte, reduceCtorEq, Qf, Qg, Qh]) <;> clear q') | refine hN _ ?_ ?_ Wk.kk | with_reducible refine And.intro ?_ ?_ | with_reducible omega | exact ok_ints | exact cells_ints | exact no_mem | with_reducible exact plain_ints | (refine le_maxLen ?_; omega) | (refine za9 ⟨?_, ?_⟩) | (simp only [go_sem, Qc, Qb, zb1, zb2, forall_eq]; done)))
         refine Ok.go ?_
         simp (disch := first | omega | decide +kernel) only [go_sem, Qa, Qb, Qc, Qd, Qe, ↓reduceIte, reduceCtorEq, Qf, Qg, Qh]
         rw [show (1 : Int) + (m : Nat) + 1 = 1 + ((m + 1 : Nat) : Int) by omega]
         refine hN2 () _ hlm trivial ?_
         rw [hnx]
         exact (by refine Wk.auto ?_ ?_ <;> simp [extraK, lk, killL, St.kill, wipeO, wipeS, AV.has, AV.hasL, AO.wipe, List.map_set, updSt, insL, dropS, ins, ])
       . rw [decide_eq_false hxy] at c2
         rw [if_neg hxy] at hnx
         refine Ok.seq (Ok.block (Ok.seq (Ok.go ?_)))
         simp (disch := first | omega | decide +kernel) only [ht1, hm1, hm0, hrl, f1, f0, tg_cells, tg_agg, List.length_map, go_sem, Qa, Qb, Qc, Qd, Qe, ↓reduceIte, reduceCtorEq, Qf, Qg, Qh]
         (repeat' (first | ((first | (refine gsel_split (fun q' => ?_) (fun q' => ?_) <;> (have h' := q') <;> (try simp only [za1, za2, Ba, Bb, za3, ne_eq, za4, za5, za6, Ia, Ib, Ic, Ie, Da, Bc, Bd, Be, za7, za8] at h') <;> try (exfalso; omega)) | (have q' := trivial; first | refine callX_new (c2) rfl (by decide) ?_ | refine callY_new (c2) rfl ?_ | refine hE _ _ ret_ne ?_ | refine hE _ _ exit_ne ?_)) <;> (try simp (disch := first | omega | decide +kernel) only [q', ht1, hm1, hm0, hrl, f1, f0, tg_cells, tg_agg, List.length_map, go_sem, Qa, Qb, Qc, Qd, Qe, ↓reduceIte, reduceCtorEq, Qf, Qg, Qh]) <;> clear q') | refine hN _ ?_ ?_ Wk.kk | with_reducible refine And.intro ?_ ?_ | with_reducible omega | exact ok_ints | exact cells_ints | exact no_mem | with_reducible exact plain_ints | (refine le_maxLen ?_; omega) | (refine za9 ⟨?_, ?_⟩) | (simp only [go_sem, Qc, Qb, zb1, zb2, forall_eq]; done)))
         refine Ok.go ?_
         simp (disch := first | omega | decide +kernel) only [hm1, hrl, f1, fk, tg_cells, tg_agg, List.length_map, go_sem, Qa, Qb, Qc, Qd, Qe, ↓reduceIte, reduceCtorEq, Qf, Qg, Qh]
         (repeat' (first | ((first | (refine gsel_split (fun q' => ?_) (fun q' => ?_) <;> (have h' := q') <;> (try simp only [za1, za2, Ba, Bb, za3, ne_eq, za4, za5, za6, Ia, Ib, Ic, Ie, Da, Bc, Bd, Be, za7, za8] at h') <;> try (exfalso; omega)) | (have q' := trivial; first | refine hE _ _ ret_ne ?_ | refine hE _ _ exit_ne ?_)) <;> (try simp (disch := first | omega | decide +kernel) only [q', hm1, hrl, f1, fk, tg_cells, tg_agg, List.length_map, go_sem, Qa, Qb, Qc, Qd, Qe, ↓reduceIte, reduceCtorEq, Qf, Qg, Qh]) <;> clear q') | refine hN _ ?_ ?_ Wk.kk | with_reducible refine And.intro ?_ ?_ | with_reducible omega | exact ok_ints | exact cells_ints | exact no_mem | with_reducible exact plain_ints | (refine le_maxLen ?_; omega) | (refine za9 ⟨?_, ?_⟩) | (simp only [go_sem, Qc, Qb, zb1, zb2, forall_eq]; done)))
         all_goals (first | exact tg_ok _ | omega | skip)
         refine Ok.go ?_
         simp (disch := first | omega | decide +kernel) only [go_sem, Qa, Qb, Qc, Qd, Qe, ↓reduceIte, reduceCtorEq, Qf, Qg, Qh]
         rw [show (1 : Int) + (m : Nat) + 1 = 1 + ((m + 1 : Nat) : Int) by omega]
         refine hN2 () _ hlm trivial ?_
         rw [hnx, ← hst2]
         exact (by refine Wk.auto ?_ ?_ <;> simp [extraK, lk, killL, St.kill, wipeO, wipeS, AV.has, AV.hasL, AO.wipe, List.map_set, updSt, insL, dropS, ins, List.length_append, List.length_singleton])
     . obtain rfl : m = ps.length - (1 + i + 1) := by omega
       rw [show 1 + i + 1 + (ps.length - (1 + i + 1)) = ps.length by omega] at *
       clear hN2
       generalize cpT ps ps.length = K at *
       refine Ok.go ?_
       simp (disch := first | omega | decide +kernel) only [ht1, hrl, List.length_map, go_sem, Qa, Qb, Qc, Qd, Qe, ↓reduceIte, reduceCtorEq, Qf, Qg, Qh]
       (repeat' (first | ((first | (refine gsel_split (fun q' => ?_) (fun q' => ?_) <;> (have h' := q') <;> (try simp only [za1, za2, Ba, Bb, za3, ne_eq, za4, za5, za6, Ia, Ib, Ic, Ie, Da, Bc, Bd, Be, za7, za8] at h') <;> try (exfalso; omega)) | (have q' := trivial; first | refine hE _ _ ret_ne ?_ | refine hE _ _ exit_ne ?_)) <;> (try simp (disch := first | omega | decide +kernel) only [q', ht1, hrl, List.length_map, go_sem, Qa, Qb, Qc, Qd, Qe, ↓reduceIte, reduceCtorEq, Qf, Qg, Qh]) <;> clear q') | refine hN _ ?_ ?_ Wk.kk | with_reducible refine And.intro ?_ ?_ | with_reducible omega | exact ok_ints | exact cells_ints | exact no_mem | with_reducible exact plain_ints | (refine le_maxLen ?_; omega) | (refine za9 ⟨?_, ?_⟩) | (simp only [go_sem, Qc, Qb, zb1, zb2, forall_eq]; done)))
       refine hE2 _ _ exit_ne ?_
       simp (disch := first | omega | decide +kernel) only [hrl, List.length_map, go_sem, Qa, Qb, Qc, Qd, Qe, ↓reduceIte, reduceCtorEq, Qf, Qg, Qh]
       (repeat' (first | ((first | (refine gsel_split (fun q' => ?_) (fun q' => ?_) <;> (have h' := q') <;> (try simp only [za1, za2, Ba, Bb, za3, ne_eq, za4, za5, za6, Ia, Ib, Ic, Ie, Da, Bc, Bd, Be, za7, za8] at h') <;> try (exfalso; omega)) | (have q' := trivial; first | refine hE _ _ ret_ne ?_ | refine hE _ _ exit_ne ?_)) <;> (try simp (disch := first | omega | decide +kernel) only [q', hrl, List.length_map, go_sem, Qa, Qb, Qc, Qd, Qe, ↓reduceIte, reduceCtorEq, Qf, Qg, Qh]) <;> clear q') | refine hN _ ?_ ?_ Wk.kk | with_reducible refine And.intro ?_ ?_ | with_reducible omega | exact ok_ints | exact cells_ints | exact no_mem | with_reducible exact plain_ints | (refine le_maxLen ?_; omega) | (refine za9 ⟨?_, ?_⟩) | (simp only [go_sem, Qc, Qb, zb1, zb2, forall_eq]; done)))
       have hfin : List.take K.length (List.map D.tg (List.take K.length (K ++ ps.drop K.length)) ++ List.replicate (ps.length - K.length) (D.slice [])) = K.map D.tg := by
        rw [List.take_left' rfl, List.take_left' (List.length_map _)]
       rw [hfin]
       exact ⟨_, _, ⟨rfl, rfl⟩, retM_s1x 0 rfl rfl fun _ => rfl⟩
   . rw [decide_eq_false heq] at c1
     have hI2 : cpT ps (1 + (i + 1)) = ps.take (1 + (i + 1)) := by
      rw [← Nat.add_assoc, take_succ zTg ps (1 + i) (by omega), ← hI]
      unfold cpT
      rw [cmpA, if_pos (.inr (by rw [show 1 + i - 1 = i by omega]; exact heq))]
     refine Ok.seq (Ok.block (Ok.seq (Ok.go ?_)))
     simp (disch := first | omega | decide +kernel) only [ht1, ht0, e1, e0, tg_cells, tg_agg, List.length_map, go_sem, Qa, Qb, Qc, Qd, Qe, ↓reduceIte, reduceCtorEq, Qf, Qg, Qh]
     (repeat' (first | ((first | (refine gsel_split (fun q' => ?_) (fun q' => ?_) <;> (have h' := q') <;> (try simp only [za1, za2, Ba, Bb, za3, ne_eq, za4, za5, za6, Ia, Ib, Ic, Ie, Da, Bc, Bd, Be, za7, za8] at h') <;> try (exfalso; omega)) | (have q' := trivial; first | refine callX_new (c1) rfl (by decide) ?_ | refine callY_new (c1) rfl ?_ | refine hE _ _ ret_ne ?_ | refine hE _ _ exit_ne ?_)) <;> (try simp (disch := first | omega | decide +kernel) only [q', ht1, ht0, e1, e0, tg_cells, tg_agg, List.length_map, go_sem, Qa, Qb, Qc, Qd, Qe, ↓reduceIte, reduceCtorEq, Qf, Qg, Qh]) <;> clear q') | refine hN _ ?_ ?_ Wk.kk | with_reducible refine And.intro ?_ ?_ | with_reducible omega | exact ok_ints | exact cells_ints | exact no_mem | with_reducible exact plain_ints | (refine le_maxLen ?_; omega) | (refine za9 ⟨?_, ?_⟩) | (simp only [go_sem, Qc, Qb, zb1, zb2, forall_eq]; done)))
     refine Ok.go ?_
     simp (disch := first | omega | decide +kernel) only [go_sem, Qa, Qb, Qc, Qd, Qe, ↓reduceIte, reduceCtorEq, Qf, Qg, Qh]
     (repeat' (first | ((first | (refine gsel_split (fun q' => ?_) (fun q' => ?_) <;> (have h' := q') <;> (try simp only [za1, za2, Ba, Bb, za3, ne_eq, za4, za5, za6, Ia, Ib, Ic, Ie, Da, Bc, Bd, Be, za7, za8] at h') <;> try (exfalso; omega)) | (have q' := trivial; first | refine hE _ _ ret_ne ?_ | refine hE _ _ exit_ne ?_)) <;> (try simp (disch := first | omega | decide +kernel) only [q', go_sem, Qa, Qb, Qc, Qd, Qe, ↓reduceIte, reduceCtorEq, Qf, Qg, Qh]) <;> clear q') | refine hN _ ?_ ?_ Wk.kk | with_reducible refine And.intro ?_ ?_ | with_reducible omega | exact ok_ints | exact cells_ints | exact no_mem | with_reducible exact plain_ints | (refine le_maxLen ?_; omega) | (refine za9 ⟨?_, ?_⟩) | (simp only [go_sem, Qc, Qb, zb1, zb2, forall_eq]; done)))
     refine Ok.go ?_
     simp (disch := first | omega | decide +kernel) only [go_sem, Qa, Qb, Qc, Qd, Qe, ↓reduceIte, reduceCtorEq, Qf, Qg, Qh]
     rw [show (1 : Int) + (i : Nat) + 1 = 1 + ((i + 1 : Nat) : Int) by omega]
     exact hN () _ hlt hI2 (by refine Wk.auto ?_ ?_ <;> simp [extraK, lk, killL, St.kill, wipeO, wipeS, AV.has, AV.hasL, AO.wipe, List.map_set, updSt, insL, dropS, ins, ])
 . obtain rfl : i = ps.length - 1 := by omega
   rw [show 1 + (ps.length - 1) = ps.length by omega] at hI
   have hI' : cpT ps ps.length = ps := by rw [hI, List.take_length]
   clear hN
   refine Ok.go ?_
   simp (disch := first | omega | decide +kernel) only [List.length_map, go_sem, Qa, Qb, Qc, Qd, Qe, ↓reduceIte, reduceCtorEq, Qf, Qg, Qh]
   (repeat' (first | ((first | (refine gsel_split (fun q' => ?_) (fun q' => ?_) <;> (have h' := q') <;> (try simp only [za1, za2, Ba, Bb, za3, ne_eq, za4, za5, za6, Ia, Ib, Ic, Ie, Da, Bc, Bd, Be, za7, za8] at h') <;> try (exfalso; omega)) | (have q' := trivial; first | refine hE _ _ ret_ne ?_ | refine hE _ _ exit_ne ?_)) <;> (try simp (disch := first | omega | decide +kernel) only [q', List.length_map, go_sem, Qa, Qb, Qc, Qd, Qe, ↓reduceIte, reduceCtorEq, Qf, Qg, Qh]) <;> clear q') | refine hN _ ?_ ?_ Wk.kk | with_reducible refine And.intro ?_ ?_ | with_reducible omega | exact ok_ints | exact cells_ints | exact no_mem | with_reducible exact plain_ints | (refine le_maxLen ?_; omega) | (refine za9 ⟨?_, ?_⟩) | (simp only [go_sem, Qc, Qb, zb1, zb2, forall_eq]; done)))
   refine Ok.go ?_
   simp (disch := first | omega | decide +kernel) only [go_sem, Qa, Qb, Qc, Qd, Qe, ↓reduceIte, reduceCtorEq, Qf, Qg, Qh]
   (repeat' (first | ((first | (refine gsel_split (fun q' => ?_) (fun q' => ?_) <;> (have h' := q') <;> (try simp only [za1, za2, Ba, Bb, za3, ne_eq, za4, za5, za6, Ia, Ib, Ic, Ie, Da, Bc, Bd, Be, za7, za8] at h') <;> try (exfalso; omega)) | (have q' := trivial; first | refine hE _ _ ret_ne ?_ | refine hE _ _ exit_ne ?_)) <;> (try simp (disch := first | omega | decide +kernel) only [q', go_sem, Qa, Qb, Qc, Qd, Qe, ↓reduceIte, reduceCtorEq, Qf, Qg, Qh]) <;> clear q') | refine hN _ ?_ ?_ Wk.kk | with_reducible refine And.intro ?_ ?_ | with_reducible omega | exact ok_ints | exact cells_ints | exact no_mem | with_reducible exact plain_ints | (refine le_maxLen ?_; omega) | (refine za9 ⟨?_, ?_⟩) | (simp only [go_sem, Qc, Qb, zb1, zb2, forall_eq]; done)))
   all_goals (rw [hI']; exact ⟨_, _, ⟨rfl, rfl⟩, retM_s1x 0 rfl rfl fun _ => rfl⟩)
end Abs.Y
