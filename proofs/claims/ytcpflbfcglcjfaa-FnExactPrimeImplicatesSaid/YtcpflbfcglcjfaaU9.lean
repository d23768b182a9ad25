/- What functions of this program compute, as contracts over plain data, with what the proofs need of them. No condition. -/
import Derived.Test.YtcpflbfcglcjfaaU7
import Derived.Test.YtcpflbfcglcjfaaE10
set_option linter.all false
namespace Abs.Y
open Go Go.Proofs Abs
open Nat renaming reduceEqDiff -> Qa, reduceLT -> Qb, reduceAdd -> Qc, reduceMul -> Qd, reduceSub -> Qe, reduceLeDiff -> Qf, reduceSubDiff -> Qg, reduceBEq -> Qh
open Bool renaming not_eq_true' -> Ba, not_eq_false' -> Bb, and_eq_true -> Bc, or_eq_true -> Bd, or_eq_false_iff -> Be
open Int renaming ofNat_lt -> Ia, ofNat_le -> Ib, not_lt -> Ic, not_le -> Ie
open Decidable renaming not_not -> Da
set_option maxRecDepth 100000

theorem mclauseD_ok {c : List Int} (g : G6 c) : Ctr Try.prog 200 [.int .u16 (mkN c : Nat)] false (.sl 0) [(0, .arr 3 1 (c.map (.int .i64)))] := by
 have := mclause_ok (mkN c) (mkN_lt g)
 rwa [clsN_mkN g] at this
theorem g6_len {c : List Int} (g : G6 c) : c.length <= 12 := by
 rw [← mkN_pc g]; unfold pcN
 exact Nat.le_trans (List.length_filter_le _ _) (by simp)
theorem g6_sm {c : List Int} (g : G6 c) : Sm c := fun x hx => by
 have := g.2 x hx
 omega
set_option maxHeartbeats 8000000 in
theorem clauses_ok {L : CT} {last : Nat} (hg : ∀ p ∈ L, G6 p.1) (hll : L.length <= 4096) : Ctr Try.prog 111 [.ptr (D.clo L last)] false (.sl 0) [(0, .dp (some (52, 1)) ((sortC (keysC L)).map D.ints) none)] := by
 refine Ctr.ofK (n := 24) (rs := [.tmp 2]) Try.func111 rfl rfl Try.ntmps111 rfl rfl (by kernel_rfl) Try.checked.mixed ?_
 refine Ok.endsW ?_
 refine Ok.seq (Ok.go ?_)
 simp (disch := first | omega | decide +kernel) only [D.clo, go_sem, Qa, Qb, Qc, Qd, Qe, ↓reduceIte, reduceCtorEq, Qf, Qg, Qh]
 (repeat' (first | ((first | (refine gsel_split (fun q' => ?_) (fun q' => ?_) <;> (have h' := q') <;> (try simp only [za1, za2, Ba, Bb, za3, ne_eq, za4, za5, za6, Ia, Ib, Ic, Ie, Da, Bc, Bd, Be, za7, za8] at h')) | (have q' := trivial; first | refine hE _ _ ret_ne ?_ | refine hE _ _ exit_ne ?_)) <;> (try simp (disch := first | omega | decide +kernel) only [q', go_sem, Qa, Qb, Qc, Qd, Qe, ↓reduceIte, reduceCtorEq, Qf, Qg, Qh]) <;> clear q') | refine hN _ ?_ ?_ Wk.kk | with_reducible refine And.intro ?_ ?_ | with_reducible omega | exact ok_ints | exact cells_ints | exact no_mem | with_reducible exact plain_ints | (refine le_maxLen ?_; omega) | (refine za9 ⟨?_, ?_⟩) | (simp only [go_sem, Qc, Qb, zb1, zb2, forall_eq]; done)))
 refine Ok.seq (Ok.go ?_)
 simp (disch := first | omega | decide +kernel) only [D.clo, go_sem, Qa, Qb, Qc, Qd, Qe, ↓reduceIte, reduceCtorEq, Qf, Qg, Qh]
 (repeat' (first | ((first | (refine gsel_split (fun q' => ?_) (fun q' => ?_) <;> (have h' := q') <;> (try simp only [za1, za2, Ba, Bb, za3, ne_eq, za4, za5, za6, Ia, Ib, Ic, Ie, Da, Bc, Bd, Be, za7, za8] at h')) | (have q' := trivial; first | refine hE _ _ ret_ne ?_ | refine hE _ _ exit_ne ?_)) <;> (try simp (disch := first | omega | decide +kernel) only [q', go_sem, Qa, Qb, Qc, Qd, Qe, ↓reduceIte, reduceCtorEq, Qf, Qg, Qh]) <;> clear q') | refine hN _ ?_ ?_ Wk.kk | with_reducible refine And.intro ?_ ?_ | with_reducible omega | exact ok_ints | exact cells_ints | exact no_mem | with_reducible exact plain_ints | (refine le_maxLen ?_; omega) | (refine za9 ⟨?_, ?_⟩) | (simp only [go_sem, Qc, Qb, zb1, zb2, forall_eq]; done)))
 refine Ok.seq (Ok.go ?_)
 simp (disch := first | omega | decide +kernel) only [go_sem, Qa, Qb, Qc, Qd, Qe, ↓reduceIte, reduceCtorEq, Qf, Qg, Qh]
 (repeat' (first | ((first | (refine gsel_split (fun q' => ?_) (fun q' => ?_) <;> (have h' := q') <;> (try simp only [za1, za2, Ba, Bb, za3, ne_eq, za4, za5, za6, Ia, Ib, Ic, Ie, Da, Bc, Bd, Be, za7, za8] at h')) | (have q' := trivial; first | refine hE _ _ ret_ne ?_ | refine hE _ _ exit_ne ?_)) <;> (try simp (disch := first | omega | decide +kernel) only [q', go_sem, Qa, Qb, Qc, Qd, Qe, ↓reduceIte, reduceCtorEq, Qf, Qg, Qh]) <;> clear q') | refine hN _ ?_ ?_ Wk.kk | with_reducible refine And.intro ?_ ?_ | with_reducible omega | exact ok_ints | exact cells_ints | exact no_mem | with_reducible exact plain_ints | (refine le_maxLen ?_; omega) | (refine za9 ⟨?_, ?_⟩) | (simp only [go_sem, Qc, Qb, zb1, zb2, forall_eq]; done)))
 refine Ok.loopN [23, 22, 21, 20, 19, 18, 17, 16, 15, 14, 13, 12, 11, 8, 7, 6, 5, 4, 3, 2, 1] (fun i _ => [(11, .d (.int .i64 (i : Nat))), (3, .sl 3)]) (fun _ (p : List (List Int)) => [(3, .dp (some (52, 1)) (p.map D.ints) none)]) L.length
  (fun i p => p = (keysC L).take i) [] (by simp) ((Wk.deep 3 rfl (by simp [flat])).trans (by refine Wk.auto ?_ ?_ <;> simp [extraK, lk, killL, St.kill, wipeO, wipeS, AV.has, AV.hasL, AO.wipe, List.map_set, updSt, insL, dropS, ins, ])) ?_
 rintro R i p hN hE hi hp
 have hkl : (keysC L).length = L.length := by simp [keysC]
 have hel0 := esO_len L
 have hpl : p.length = i := by rw [hp, List.length_take]; omega
 by_cases hlt : i < L.length
 . have gc := hg _ (getD_memC hlt)
   have hel : el ((esO L).map fun p => D.int .u16 p.1) i = D.int .u16 (mkN (L.getD i zC).1) := by
    rw [show (esO L).map (fun p => D.int .u16 p.1) = L.map (fun p => D.mk (mkN p.1)) by simp [esO, Function.comp_def]]
    exact el_map (f := fun p : List Int × Nat => D.mk (mkN p.1)) zC hlt
   have htk : (keysC L).take (i + 1) = p ++ [(L.getD i zC).1] := by
    rw [take_succ [] _ i (by omega), ← hp]
    congr 2
    simp [keysC, List.getD_eq_getElem?_getD, hlt]
   have gl := g6_len gc
   generalize (L.getD i zC).1 = c at *
   have c2 := mclauseD_ok gc
   simp (disch := first | omega | decide +kernel) only [List.length_map, hel, go_sem, Qa, Qb, Qc, Qd, Qe, ↓reduceIte, reduceCtorEq, Qf, Qg, Qh]
   (repeat' (first | ((first | (refine gsel_split (fun q' => ?_) (fun q' => ?_) <;> (have h' := q') <;> (try simp only [za1, za2, Ba, Bb, za3, ne_eq, za4, za5, za6, Ia, Ib, Ic, Ie, Da, Bc, Bd, Be, za7, za8] at h')) | (have q' := trivial; first | refine callX_new (c2) rfl (by decide) ?_ | refine callY_new (c2) rfl ?_ | refine hE _ _ ret_ne ?_ | refine hE _ _ exit_ne ?_)) <;> (try simp (disch := first | omega | decide +kernel) only [q', List.length_map, hel, go_sem, Qa, Qb, Qc, Qd, Qe, ↓reduceIte, reduceCtorEq, Qf, Qg, Qh]) <;> clear q') | refine hN _ ?_ ?_ Wk.kk | with_reducible refine And.intro ?_ ?_ | with_reducible omega | exact ok_ints | exact cells_ints | exact no_mem | with_reducible exact plain_ints | (refine le_maxLen ?_; omega) | (refine za9 ⟨?_, ?_⟩) | (simp only [go_sem, Qc, Qb, zb1, zb2, forall_eq]; done)))
   all_goals (first | exact of_eq_true (bare_ints _) | omega | skip)
   refine hN (p ++ [c]) _ hlt htk.symm (by refine Wk.auto ?_ ?_ <;> simp [extraK, lk, killL, St.kill, wipeO, wipeS, AV.has, AV.hasL, AO.wipe, List.map_set, updSt, insL, dropS, ins, D.ints])
 . obtain rfl : i = L.length := by omega
   rw [← hkl, List.take_length] at hp
   subst hp
   simp (disch := first | omega | decide +kernel) only [List.length_map, go_sem, Qa, Qb, Qc, Qd, Qe, ↓reduceIte, reduceCtorEq, Qf, Qg, Qh]
   (repeat' (first | ((first | (refine gsel_split (fun q' => ?_) (fun q' => ?_) <;> (have h' := q') <;> (try simp only [za1, za2, Ba, Bb, za3, ne_eq, za4, za5, za6, Ia, Ib, Ic, Ie, Da, Bc, Bd, Be, za7, za8] at h')) | (have q' := trivial; first | refine hE _ _ ret_ne ?_ | refine hE _ _ exit_ne ?_)) <;> (try simp (disch := first | omega | decide +kernel) only [q', List.length_map, go_sem, Qa, Qb, Qc, Qd, Qe, ↓reduceIte, reduceCtorEq, Qf, Qg, Qh]) <;> clear q') | refine hN _ ?_ ?_ Wk.kk | with_reducible refine And.intro ?_ ?_ | with_reducible omega | exact ok_ints | exact cells_ints | exact no_mem | with_reducible exact plain_ints | (refine le_maxLen ?_; omega) | (refine za9 ⟨?_, ?_⟩) | (simp only [go_sem, Qc, Qb, zb1, zb2, forall_eq]; done)))
   all_goals (try (exfalso; omega))
   clear hN hE
   refine Ok.tag1 3 900000001 (by decide) (cs := keysC L) rfl fun ps hps => ?_
   have hg2 : ∀ p ∈ ps, G6 p.2 := fun p hp => by
    have : p.2 ∈ keysC L := hps ▸ List.mem_map.2 ⟨p, hp, rfl⟩
    obtain ⟨q, hq, e⟩ := List.mem_map.1 this
    rw [← e]; exact hg q hq
   have hpl2 : ps.length <= 4096 := by have := congrArg List.length hps; simp only [List.length_map] at this; omega
   have c3 := sortT_ok ps (by omega) (fun p hp => by have := g6_len (hg2 p hp); omega) fun p hp => g6_sm (hg2 p hp)
   obtain ⟨q1, q2⟩ := srtT_perm ps (Lib.bitLen ps.length) fun p hp => g6_sm (hg2 p hp)
   rw [hps] at q2
   generalize srtT ps (Lib.bitLen ps.length) = qs at *
   refine Ok.seq (Ok.go ?_)
   simp (disch := first | omega | decide +kernel) only [go_sem, Qa, Qb, Qc, Qd, Qe, ↓reduceIte, reduceCtorEq, Qf, Qg, Qh]
   refine callX_shareK 3 c3 ⟨.inl rfl, .inl rfl, trivial⟩ rfl (by simp [dstB]) ?_
   simp (disch := first | omega | decide +kernel) only [go_sem, Qa, Qb, Qc, Qd, Qe, ↓reduceIte, reduceCtorEq, Qf, Qg, Qh]
   have hq : (qs.map fun p : Tg => D.slice (p.2.map (.int .i64))) = (sortC (keysC L)).map D.ints := by rw [← q2, List.map_map]; rfl
   refine Ok.weak (Wk.thaw1 (S' := [(3, .sl 3)]) (O' := [(3, .dp (some (52, 1)) (qs.map fun p => .slice (p.2.map (.int .i64))) none)]) 3 900000001 rfl rfl ⟨qs, q1, List.Sublist.refl _⟩
    (fun p hp => by simp only [List.mem_cons, List.not_mem_nil, or_false] at hp; subst hp; exact ⟨rfl, trivial⟩) (fun p hp => by simp only [List.mem_cons, List.not_mem_nil, or_false] at hp; subst hp; exact .inl ⟨rfl, rfl⟩)) ?_
   rw [hq]
   refine Ok.go ?_
   simp (disch := first | omega | decide +kernel) only [go_sem, Qa, Qb, Qc, Qd, Qe, ↓reduceIte, reduceCtorEq, Qf, Qg, Qh]
   (repeat' (first | ((first | (refine gsel_split (fun q' => ?_) (fun q' => ?_) <;> (have h' := q') <;> (try simp only [za1, za2, Ba, Bb, za3, ne_eq, za4, za5, za6, Ia, Ib, Ic, Ie, Da, Bc, Bd, Be, za7, za8] at h')) | (have q' := trivial; first | refine hE _ _ ret_ne ?_ | refine hE _ _ exit_ne ?_)) <;> (try simp (disch := first | omega | decide +kernel) only [q', go_sem, Qa, Qb, Qc, Qd, Qe, ↓reduceIte, reduceCtorEq, Qf, Qg, Qh]) <;> clear q') | refine hN _ ?_ ?_ Wk.kk | with_reducible refine And.intro ?_ ?_ | with_reducible omega | exact ok_ints | exact cells_ints | exact no_mem | with_reducible exact plain_ints | (refine le_maxLen ?_; omega) | (refine za9 ⟨?_, ?_⟩) | (simp only [go_sem, Qc, Qb, zb1, zb2, forall_eq]; done)))

   all_goals exact ⟨_, Wk.refl, ret_dp 3 rfl rfl⟩
end Abs.Y

namespace Abs.Y
open Go Go.Proofs Abs
open Nat renaming reduceEqDiff -> Qa, reduceLT -> Qb, reduceAdd -> Qc, reduceMul -> Qd, reduceSub -> Qe, reduceLeDiff -> Qf, reduceSubDiff -> Qg, reduceBEq -> Qh
open Bool renaming not_eq_true' -> Ba, not_eq_false' -> Bb, and_eq_true -> Bc, or_eq_true -> Bd, or_eq_false_iff -> Be
open Int renaming ofNat_lt -> Ia, ofNat_le -> Ib, not_lt -> Ic, not_le -> Ie
open Decidable renaming not_not -> Da
set_option maxRecDepth 100000

def goodN (v : Int) (cs : List (List Int)) (w : Int) : Bool := (okCnf v cs && decide (v <= 6)) && (decide (0 <= w) && decide (w <= 6))
theorem narrowOk_ok (v : Int) (cs : List (List Int)) (w : Int) (hl : cs.length <= 4294967296) (hc : ∀ j, (cs.getD j []).length <= 4294967296) :
 Ctr Try.prog 109 [.agg [.int .i64 v, .slice (cs.map D.ints)], .int .i64 w] false (.d (.bool (goodN v cs w))) [] := by
 have c1 := isCnf_ok v cs hl hc
 have c2 := within_ok w 0 6
 unfold goodN
 generalize okCnf v cs = b at *
 refine Ctr.of (n := 16) (rs := [.tmp 4]) Try.func109 rfl rfl Try.ntmps109 rfl rfl (by kernel_rfl) Try.checked.mixed ?_
 simp (disch := first | omega | decide +kernel) only [go_sem, Qa, Qb, Qc, Qd, Qe, ↓reduceIte, reduceCtorEq, Qf, Qg, Qh]
 cases b
 . (repeat' (first | ((first | (refine gsel_split (fun q' => ?_) (fun q' => ?_) <;> (have h' := q') <;> (try simp only [za1, za2, Ba, Bb, za3, ne_eq, za4, za5, za6, Ia, Ib, Ic, Ie, Da, Bc, Bd, Be, za7, za8] at h')) | (have q' := trivial; first | refine callX_new (c1) rfl (by decide) ?_ | refine callY_new (c1) rfl ?_ | refine callX_new (c2) rfl (by decide) ?_ | refine callY_new (c2) rfl ?_ | refine hE _ _ ret_ne ?_ | refine hE _ _ exit_ne ?_)) <;> (try simp (disch := first | omega | decide +kernel) only [q', go_sem, Qa, Qb, Qc, Qd, Qe, ↓reduceIte, reduceCtorEq, Qf, Qg, Qh]) <;> clear q') | refine hN _ ?_ ?_ Wk.kk | with_reducible refine And.intro ?_ ?_ | with_reducible omega | exact ok_ints | exact cells_ints | exact no_mem | with_reducible exact plain_ints | (refine le_maxLen ?_; omega) | (refine za9 ⟨?_, ?_⟩) | (simp only [go_sem, Qc, Qb, zb1, zb2, forall_eq]; done)))
   all_goals simp
 . (repeat' (first | ((first | (refine gsel_split (fun q' => ?_) (fun q' => ?_) <;> (have h' := q') <;> (try simp only [za1, za2, Ba, Bb, za3, ne_eq, za4, za5, za6, Ia, Ib, Ic, Ie, Da, Bc, Bd, Be, za7, za8] at h')) | (have q' := trivial; first | refine callX_new (c1) rfl (by decide) ?_ | refine callY_new (c1) rfl ?_ | refine callX_new (c2) rfl (by decide) ?_ | refine callY_new (c2) rfl ?_ | refine hE _ _ ret_ne ?_ | refine hE _ _ exit_ne ?_)) <;> (try simp (disch := first | omega | decide +kernel) only [q', go_sem, Qa, Qb, Qc, Qd, Qe, ↓reduceIte, reduceCtorEq, Qf, Qg, Qh]) <;> clear q') | refine hN _ ?_ ?_ Wk.kk | with_reducible refine And.intro ?_ ?_ | with_reducible omega | exact ok_ints | exact cells_ints | exact no_mem | with_reducible exact plain_ints | (refine le_maxLen ?_; omega) | (refine za9 ⟨?_, ?_⟩) | (simp only [go_sem, Qc, Qb, zb1, zb2, forall_eq]; done)))
   all_goals (first | rfl | simp_all)
theorem good6 {v : Int} {cs : List (List Int)} {w : Int} (h : goodN v cs w = true) : (∀ c ∈ cs, G6 c) ∧ cs.length <= 60 ∧ (0 <= w ∧ w <= 6) ∧ 0 <= v ∧ v <= 6 ∧ okCnf v cs = true := by
 simp only [goodN, Bc, decide_eq_true_eq] at h
 obtain ⟨⟨h1, h2⟩, h3⟩ := h
 have h1' := h1
 simp only [okCnf, Bc, decide_eq_true_eq, List.all_eq_true] at h1'
 obtain ⟨⟨h4, h5⟩, h6⟩ := h1'
 have h7 := okVars_iff.1 h4
 refine ⟨fun c hc => ⟨good_of_ok (h6 c hc), fun x hx => ?_⟩, h5, h3, h7.1, h2, h1⟩
 have h8 := h6 c hc
 simp only [okClause, Bc, decide_eq_true_eq] at h8
 obtain ⟨j, hj, rfl⟩ := List.getElem_of_mem hx
 have h9 := (h8.2 j hj).1
 simp only [List.getD_eq_getElem?_getD, List.getElem?_eq_getElem hj, Option.getD_some] at h9
 omega
open Classical in
noncomputable def srtV (S : List Int -> Prop) : List (List Int) := if h : ∃ l, Srt l ∧ ∀ c, c ∈ l ↔ S c then h.choose else []
theorem srtV_eq {S : List Int -> Prop} {l : List (List Int)} (h1 : Srt l) (h2 : ∀ c, c ∈ l ↔ S c) : srtV S = l := by
 have h : ∃ l, Srt l ∧ ∀ c, c ∈ l ↔ S c := ⟨l, h1, h2⟩
 unfold srtV
 rw [dif_pos h]
 exact srt_uniq h.choose_spec.1 h1 fun c => by rw [h.choose_spec.2, h2]
def CloS (cs : List (List Int)) (w : Nat) (c : List Int) : Prop := ∃ k, NewC cs w k c
noncomputable def closV (cs : List (List Int)) (w : Nat) : List (List Int) := srtV (CloS cs w)
theorem FinC.srt {cs : List (List Int)} {w : Nat} {L : CT} {last : Nat} (hg : ∀ c ∈ cs, G6 c) (h : FinC cs w L last) : Srt (sortC (keysC L)) ∧ ∀ c, c ∈ sortC (keysC L) ↔ CloS cs w c := by
 have hs : ∀ x ∈ keysC L, Sm x := fun x hx => by
  obtain ⟨p, hp, rfl⟩ := List.mem_map.1 hx
  exact g6_sm (new_g6 hg ((h.mem p.1 p.2).1 hp))
 refine ⟨srt_of (sortC_sm hs) (sortC_sorted hs) ((sortC_perm _).nodup_iff.2 h.nd), fun c => ?_⟩
 rw [(sortC_perm _).mem_iff]
 constructor
 . intro hc
   obtain ⟨p, hp, rfl⟩ := List.mem_map.1 hc
   exact ⟨p.2, (h.mem _ _).1 hp⟩
 . rintro ⟨k, hk⟩
   exact List.mem_map.2 ⟨(c, k), (h.mem c k).2 hk, rfl⟩
theorem FinC.closV {cs : List (List Int)} {w : Nat} {L : CT} {last : Nat} (hg : ∀ c ∈ cs, G6 c) (h : FinC cs w L last) : closV cs w = sortC (keysC L) := srtV_eq (h.srt hg).1 (h.srt hg).2

noncomputable def closI (v : Int) (cs : List (List Int)) (w : Int) : List (List Int) := if goodN v cs w then closV cs w.toNat else []
theorem closureAt_ok (v : Int) (cs : List (List Int)) (w : Int) (hl : cs.length <= 1048576) (hc : ∀ j, (cs.getD j []).length <= 1048576) :
 Ctr Try.prog 29 [.agg [.int .i64 v, .slice (cs.map D.ints)], .int .i64 w] false (.tup [.sl 0, .d (.bool (goodN v cs w))]) [(0, .dp (some (52, 1)) ((closI v cs w).map D.ints) none)] := by
 have c1 := narrowOk_ok v cs w (by omega) fun j => by have := hc j; omega
 unfold closI
 cases h : goodN v cs w with
 | false =>
   rw [h] at c1
   rw [if_neg (by decide)]
   refine Ctr.ofK (n := 14) (rs := [.tmp 4, .tmp 5]) Try.func29 rfl rfl Try.ntmps29 rfl rfl (by kernel_rfl) Try.checked.mixed ?_
   refine Ok.endsW ?_
   refine Ok.go ?_
   simp (disch := first | omega | decide +kernel) only [List.map_nil, go_sem, Qa, Qb, Qc, Qd, Qe, ↓reduceIte, reduceCtorEq, Qf, Qg, Qh]
   (repeat' (first | ((first | (refine gsel_split (fun q' => ?_) (fun q' => ?_) <;> (have h' := q') <;> (try simp only [za1, za2, Ba, Bb, za3, ne_eq, za4, za5, za6, Ia, Ib, Ic, Ie, Da, Bc, Bd, Be, za7, za8] at h')) | (have q' := trivial; first | refine callX_new (c1) rfl (by decide) ?_ | refine callY_new (c1) rfl ?_ | refine hE _ _ ret_ne ?_ | refine hE _ _ exit_ne ?_)) <;> (try simp (disch := first | omega | decide +kernel) only [q', List.map_nil, go_sem, Qa, Qb, Qc, Qd, Qe, ↓reduceIte, reduceCtorEq, Qf, Qg, Qh]) <;> clear q') | refine hN _ ?_ ?_ Wk.kk | with_reducible refine And.intro ?_ ?_ | with_reducible omega | exact ok_ints | exact cells_ints | exact no_mem | with_reducible exact plain_ints | (refine le_maxLen ?_; omega) | (refine za9 ⟨?_, ?_⟩) | (simp only [go_sem, Qc, Qb, zb1, zb2, forall_eq]; done)))
   all_goals exact ⟨_, Wk.deep 4 rfl (by simp [flat]), ret_dpd 4 rfl rfl rfl rfl⟩
 | true =>
   rw [h] at c1
   rw [if_pos rfl]
   obtain ⟨g1, g2, g3, g4⟩ := good6 h
   obtain ⟨w, rfl⟩ : ∃ n : Nat, w = n := ⟨w.toNat, by omega⟩
   rw [Int.toNat_natCast]
   have c2 := closureOf_ok (vv := v) g1 g2 (fun j => by
    by_cases hj : j < cs.length
    . have := g6_len (g1 _ (getD_mem (z := ([] : List Int)) hj)); omega
    . rw [List.getD_eq_getElem?_getD, List.getElem?_eq_none (by omega)]; simp) (show w <= 6 by omega)
   refine Ctr.of (n := 14) (rs := [.tmp 4, .tmp 5]) Try.func29 rfl rfl Try.ntmps29 rfl rfl (by kernel_rfl) Try.checked.mixed ?_
   simp (disch := first | omega | decide +kernel) only [go_sem, Qa, Qb, Qc, Qd, Qe, ↓reduceIte, reduceCtorEq, Qf, Qg, Qh]
   (repeat' (first | ((first | (refine gsel_split (fun q' => ?_) (fun q' => ?_) <;> (have h' := q') <;> (try simp only [za1, za2, Ba, Bb, za3, ne_eq, za4, za5, za6, Ia, Ib, Ic, Ie, Da, Bc, Bd, Be, za7, za8] at h')) | (have q' := trivial; first | refine callX_new (c1) rfl (by decide) ?_ | refine callY_new (c1) rfl ?_ | refine hE _ _ ret_ne ?_ | refine hE _ _ exit_ne ?_)) <;> (try simp (disch := first | omega | decide +kernel) only [q', go_sem, Qa, Qb, Qc, Qd, Qe, ↓reduceIte, reduceCtorEq, Qf, Qg, Qh]) <;> clear q') | refine hN _ ?_ ?_ Wk.kk | with_reducible refine And.intro ?_ ?_ | with_reducible omega | exact ok_ints | exact cells_ints | exact no_mem | with_reducible exact plain_ints | (refine le_maxLen ?_; omega) | (refine za9 ⟨?_, ?_⟩) | (simp only [go_sem, Qc, Qb, zb1, zb2, forall_eq]; done)))
   refine callX_rel [] [] [] c2 ⟨.inl rfl, .inl rfl, trivial⟩ trivial (by simp [namesI, keysO]) (by simp [dstB]) ?_
   rintro _ _ ⟨L, last, hF, rfl, rfl⟩
   refine ⟨by simp [namesOK, keysO], ?_⟩
   have hgL : ∀ p ∈ L, G6 p.1 := fun p hp => new_g6 g1 ((hF.mem p.1 p.2).1 hp)
   have c3 := clauses_ok (last := last) hgL (table_len hgL hF.nd)
   rw [hF.closV g1]
   generalize D.clo L last = dc at *
   simp (disch := first | omega | decide +kernel) only [go_sem, Qa, Qb, Qc, Qd, Qe, ↓reduceIte, reduceCtorEq, Qf, Qg, Qh]
   (repeat' (first | ((first | (refine gsel_split (fun q' => ?_) (fun q' => ?_) <;> (have h' := q') <;> (try simp only [za1, za2, Ba, Bb, za3, ne_eq, za4, za5, za6, Ia, Ib, Ic, Ie, Da, Bc, Bd, Be, za7, za8] at h')) | (have q' := trivial; first | refine callX_new (c3) rfl (by decide) ?_ | refine callY_new (c3) rfl ?_ | refine hE _ _ ret_ne ?_ | refine hE _ _ exit_ne ?_)) <;> (try simp (disch := first | omega | decide +kernel) only [q', go_sem, Qa, Qb, Qc, Qd, Qe, ↓reduceIte, reduceCtorEq, Qf, Qg, Qh]) <;> clear q') | refine hN _ ?_ ?_ Wk.kk | with_reducible refine And.intro ?_ ?_ | with_reducible omega | exact ok_ints | exact cells_ints | exact no_mem | with_reducible exact plain_ints | (refine le_maxLen ?_; omega) | (refine za9 ⟨?_, ?_⟩) | (simp only [go_sem, Qc, Qb, zb1, zb2, forall_eq]; done)))

   all_goals exact ret_dpd 1400000 rfl rfl rfl rfl
end Abs.Y
