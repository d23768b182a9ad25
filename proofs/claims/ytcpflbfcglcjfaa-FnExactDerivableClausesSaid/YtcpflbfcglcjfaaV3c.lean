/- What functions of this program compute, as contracts over plain data, with what the proofs need of them. No condition. -/
import Derived.Test.YtcpflbfcglcjfaaE1
import Derived.Test.YtcpflbfcglcjfaaM0
import Derived.Test.YtcpflbfcglcjfaaL2
set_option linter.all false
namespace Abs.Y
open Go Go.Proofs Abs
open Nat renaming reduceEqDiff -> Qa, reduceLT -> Qb, reduceAdd -> Qc, reduceMul -> Qd, reduceSub -> Qe, reduceLeDiff -> Qf, reduceSubDiff -> Qg, reduceBEq -> Qh
open Bool renaming not_eq_true' -> Ba, not_eq_false' -> Bb, and_eq_true -> Bc, or_eq_true -> Bd, or_eq_false_iff -> Be
open Int renaming ofNat_lt -> Ia, ofNat_le -> Ib, not_lt -> Ic, not_le -> Ie
open Decidable renaming not_not -> Da
set_option maxRecDepth 100000

theorem toIntSSd_ok (a : List (List Int)) (hl : a.length <= 4294967296) (hx : ∀ x ∈ a, x.length <= 4294967296) : Ctr Try.prog 95 [.slice (a.map D.ints)] false (.sl 0) [(0, .dp (some (52, 1)) (a.map D.ints) none)] := by
 refine Ctr.of (n := 23) (rs := [.tmp 2]) Try.func95 rfl rfl Try.ntmps95 rfl rfl (by kernel_rfl) Try.checked.mixed ?_
 simp (disch := first | omega | decide +kernel) only [go_sem, Qa, Qb, Qc, Qd, Qe, ↓reduceIte, reduceCtorEq, Qf, Qg, Qh]
 refine ⟨by omega, ?_⟩
 rw [show List.replicate a.length (D.slice []) = (List.replicate a.length (([] : List Int) : (List Int))).map D.ints by simp [D.ints]]
 refine Ok.loopN [21, 20, 19, 18, 17, 16, 15, 14, 13, 12, 11, 10, 9, 8, 7, 6, 5, 4, 1] (fun i _ => [(4, .d (.int .i64 (i : Nat)))]) (fun _ (cur : List (List Int)) => [(7, .dp (some (52, 1)) (List.map D.ints cur) none)]) a.length
  (fun i cur => cur.length = a.length ∧ ∀ j, j < i -> cur.getD j ([] : List Int) = a.getD j ([] : List Int)) (List.replicate a.length ([] : List Int)) ⟨by simp, by simp⟩ ((Wk.deep 7 rfl bare_nils).trans (Wk.kk)) ?_
 rintro R i cur hN hE hi ⟨hcl, hcur⟩
 simp (disch := first | omega | decide +kernel) only [go_sem, Qa, Qb, Qc, Qd, Qe, ↓reduceIte, reduceCtorEq, Qf, Qg, Qh]
 by_cases hlt : i < a.length
 . have he := hx _ (getD_mem (z := ([] : List Int)) hlt)
   have hlc : i < cur.length := by omega
   have hc := toIntSd_ok (a.getD i []) he
   (repeat' (first | ((first | (refine gsel_split (fun q' => ?_) (fun q' => ?_) <;> (have h' := q') <;> (try simp only [za1, za2, Ba, Bb, za3, ne_eq, za4, za5, za6, Ia, Ib, Ic, Ie, Da, Bc, Bd, Be, za7, za8] at h')) | (have q' := trivial; first | refine callX_new (hc) rfl (by decide) ?_ | refine callY_new (hc) rfl ?_ | refine hE _ _ ret_ne ?_ | refine hE _ _ exit_ne ?_)) <;> (try simp (disch := first | omega | decide +kernel) only [q', go_sem, Qa, Qb, Qc, Qd, Qe, ↓reduceIte, reduceCtorEq, Qf, Qg, Qh]) <;> clear q') | refine hN _ ?_ ?_ Wk.kk | with_reducible refine And.intro ?_ ?_ | with_reducible omega | exact ok_ints | exact cells_ints | exact no_mem | with_reducible exact plain_ints | (refine le_maxLen ?_; omega) | (refine za9 ⟨?_, ?_⟩) | (simp only [go_sem, Qc, Qb, zb1, zb2, forall_eq]; done)))
   . refine hN (cur.set i (a.getD i ([] : List Int))) _ hlt ⟨by simp [hcl], fun j hj => ?_⟩ (by refine Wk.auto ?_ ?_ <;> simp [extraK, lk, killL, St.kill, wipeO, wipeS, AV.has, AV.hasL, AO.wipe, List.map_set, updSt, insL, dropS, ins, D.ints])
     rw [set_getDz ([] : List Int) _ _ _ _ hlc]
     by_cases e : j = i
     . subst e; simp
     . rw [if_neg e]; exact hcur j (by omega)
 . (repeat' (first | ((first | (refine gsel_split (fun q' => ?_) (fun q' => ?_) <;> (have h' := q') <;> (try simp only [za1, za2, Ba, Bb, za3, ne_eq, za4, za5, za6, Ia, Ib, Ic, Ie, Da, Bc, Bd, Be, za7, za8] at h')) | (have q' := trivial; first | refine hE _ _ ret_ne ?_ | refine hE _ _ exit_ne ?_)) <;> (try simp (disch := first | omega | decide +kernel) only [q', go_sem, Qa, Qb, Qc, Qd, Qe, ↓reduceIte, reduceCtorEq, Qf, Qg, Qh]) <;> clear q') | refine hN _ ?_ ?_ Wk.kk | with_reducible refine And.intro ?_ ?_ | with_reducible omega | exact ok_ints | exact cells_ints | exact no_mem | with_reducible exact plain_ints | (refine le_maxLen ?_; omega) | (refine za9 ⟨?_, ?_⟩) | (simp only [go_sem, Qc, Qb, zb1, zb2, forall_eq]; done)))
   . obtain rfl : cur = a := ext_getDz ([] : List Int) hcl fun j hj => hcur j (by omega)
     exact ret_dp 7 rfl rfl
theorem toCnfd_ok (v : Int) (a : List (List Int)) (hl : a.length <= 4294967296) (hx : ∀ x ∈ a, x.length <= 4294967296) : Ctr Try.prog 23 [.agg [.int .i64 v, .slice (a.map D.ints)]] false (.st [.d (.int .i64 v), .sl 0]) [(0, .dp (some (52, 1)) (a.map D.ints) none)] := by
 have hc := toIntSSd_ok a hl hx
 refine Ctr.of (n := 12) (rs := [.cell 2 34]) Try.func23 rfl rfl Try.ntmps23 rfl rfl (by kernel_rfl) Try.checked.mixed ?_
 simp (disch := first | omega | decide +kernel) only [go_sem, Qa, Qb, Qc, Qd, Qe, ↓reduceIte, reduceCtorEq, Qf, Qg, Qh]
 (repeat' (first | ((first | (refine gsel_split (fun q' => ?_) (fun q' => ?_) <;> (have h' := q') <;> (try simp only [za1, za2, Ba, Bb, za3, ne_eq, za4, za5, za6, Ia, Ib, Ic, Ie, Da, Bc, Bd, Be, za7, za8] at h')) | (have q' := trivial; first | refine callX_new (hc) rfl (by decide) ?_ | refine callY_new (hc) rfl ?_ | refine hE _ _ ret_ne ?_ | refine hE _ _ exit_ne ?_)) <;> (try simp (disch := first | omega | decide +kernel) only [q', go_sem, Qa, Qb, Qc, Qd, Qe, ↓reduceIte, reduceCtorEq, Qf, Qg, Qh]) <;> clear q') | refine hN _ ?_ ?_ Wk.kk | with_reducible refine And.intro ?_ ?_ | with_reducible omega | exact ok_ints | exact cells_ints | exact no_mem | with_reducible exact plain_ints | (refine le_maxLen ?_; omega) | (refine za9 ⟨?_, ?_⟩) | (simp only [go_sem, Qc, Qb, zb1, zb2, forall_eq]; done)))
 exact ret_cst rfl rfl (by simp only [go_sem]) (by simp only [go_sem, List.length_cons, List.length_nil]) rfl (by simp only [go_sem]) rfl rfl ⟨rfl, trivial, trivial⟩ trivial rfl
theorem markCnf_ok (τ : Option (TypeId × Nat)) (v : Int) (a : List (List Int)) (k : Int) (h0 : 0 <= k) (h1 : k + lenSS a <= 9000000000000000000) (hl : a.length <= 4294967296) :
 CtrM Try.prog 26 [.st [.d (.int .i64 v), .sl 0], .d (.int .i64 k)] [(0, .dp τ (a.map D.ints) none)] [0] false (.d (.int .i64 (k + lenSS a))) [(0, .dp τ ((cntSS a k).map D.ints) none)] := by
 have hc := markIntSS_ok τ a k h0 h1 hl
 refine CtrM.of (n := 10) (rs := [.tmp 4]) Try.func26 rfl rfl Try.ntmps26 rfl rfl (by kernel_rfl) Try.checked.mixed ?_; intro u
 simp (disch := first | omega | decide +kernel) only [go_sem, Qa, Qb, Qc, Qd, Qe, ↓reduceIte, reduceCtorEq, Qf, Qg, Qh]
 (repeat' (first | ((first | (refine gsel_split (fun q' => ?_) (fun q' => ?_) <;> (have h' := q') <;> (try simp only [za1, za2, Ba, Bb, za3, ne_eq, za4, za5, za6, Ia, Ib, Ic, Ie, Da, Bc, Bd, Be, za7, za8] at h')) | (have q' := trivial; first | refine hE _ _ ret_ne ?_ | refine hE _ _ exit_ne ?_)) <;> (try simp (disch := first | omega | decide +kernel) only [q', go_sem, Qa, Qb, Qc, Qd, Qe, ↓reduceIte, reduceCtorEq, Qf, Qg, Qh]) <;> clear q') | refine hN _ ?_ ?_ Wk.kk | with_reducible refine And.intro ?_ ?_ | with_reducible omega | exact ok_ints | exact cells_ints | exact no_mem | with_reducible exact plain_ints | (refine le_maxLen ?_; omega) | (refine za9 ⟨?_, ?_⟩) | (simp only [go_sem, Qc, Qb, zb1, zb2, forall_eq]; done)))
 refine callX_keep _ hc ⟨.inl rfl, .inl rfl, trivial⟩ rfl (by simp [dstB]) ?_
 simp (disch := first | omega | decide +kernel) only [go_sem, Qa, Qb, Qc, Qd, Qe, ↓reduceIte, reduceCtorEq, Qf, Qg, Qh]
 (repeat' (first | ((first | (refine gsel_split (fun q' => ?_) (fun q' => ?_) <;> (have h' := q') <;> (try simp only [za1, za2, Ba, Bb, za3, ne_eq, za4, za5, za6, Ia, Ib, Ic, Ie, Da, Bc, Bd, Be, za7, za8] at h')) | (have q' := trivial; first | refine hE _ _ ret_ne ?_ | refine hE _ _ exit_ne ?_)) <;> (try simp (disch := first | omega | decide +kernel) only [q', go_sem, Qa, Qb, Qc, Qd, Qe, ↓reduceIte, reduceCtorEq, Qf, Qg, Qh]) <;> clear q') | refine hN _ ?_ ?_ Wk.kk | with_reducible refine And.intro ?_ ?_ | with_reducible omega | exact ok_ints | exact cells_ints | exact no_mem | with_reducible exact plain_ints | (refine le_maxLen ?_; omega) | (refine za9 ⟨?_, ?_⟩) | (simp only [go_sem, Qc, Qb, zb1, zb2, forall_eq]; done)))
 exact retM_d rfl rfl rfl rfl trivial rfl
end Abs.Y

namespace Abs.Y
open Go Go.Proofs Abs
open Nat renaming reduceEqDiff -> Qa, reduceLT -> Qb, reduceAdd -> Qc, reduceMul -> Qd, reduceSub -> Qe, reduceLeDiff -> Qf, reduceSubDiff -> Qg, reduceBEq -> Qh
open Bool renaming not_eq_true' -> Ba, not_eq_false' -> Bb, and_eq_true -> Bc, or_eq_true -> Bd, or_eq_false_iff -> Be
open Int renaming ofNat_lt -> Ia, ofNat_le -> Ib, not_lt -> Ic, not_le -> Ie
open Decidable renaming not_not -> Da
set_option maxRecDepth 100000

def derG (v : Int) (cs : List (List Int)) : Bool := goodN v cs 0
noncomputable def derAll (v : Int) (cs : List (List Int)) : List (List Int) := if derG v cs then closV cs 6 else []
noncomputable def derB (v : Int) (cs : List (List Int)) : Bool := derG v cs && decide (((closV cs 6).length : Int) <= 14)
noncomputable def derI (v : Int) (cs : List (List Int)) : List (List Int) := if derB v cs then closV cs 6 else []
theorem l15All_ok (v : Int) (cs : List (List Int)) (hl : cs.length <= 1048576) (hc : ∀ j, (cs.getD j []).length <= 1048576) :
 Ctr Try.prog 112 [.agg [.int .i64 v, .slice (cs.map D.ints)]] true (.tup [.d (.slice ((derAll v cs).map D.ints)), .d (.bool (derB v cs))]) [] := by
 have c1 := l10Good_ok v cs (by omega) fun j => by have := hc j; omega
 unfold derAll derB
 have hgd : derG v cs = (decide (v <= 6) && okCnf v cs) := by
  simp only [derG, goodN]
  cases okCnf v cs <;> cases decide (v <= 6) <;> rfl
 cases h : derG v cs with
 | false =>
   rw [if_neg (by decide), Bool.false_and]
   rw [← hgd, h] at c1
   refine Ctr.of (n := 16) (rs := [.tmp 2, .tmp 3]) Try.func112 rfl rfl Try.ntmps112 rfl rfl (by kernel_rfl) Try.checked.mixed ?_
   simp (disch := first | omega | decide +kernel) only [List.map_nil, go_sem, Qa, Qb, Qc, Qd, Qe, ↓reduceIte, reduceCtorEq, Qf, Qg, Qh]
   (repeat' (first | ((first | (refine gsel_split (fun q' => ?_) (fun q' => ?_) <;> (have h' := q') <;> (try simp only [za1, za2, Ba, Bb, za3, ne_eq, za4, za5, za6, Ia, Ib, Ic, Ie, Da, Bc, Bd, Be, za7, za8] at h')) | (have q' := trivial; first | refine callX_new (c1) rfl (by decide) ?_ | refine callY_new (c1) rfl ?_ | refine hE _ _ ret_ne ?_ | refine hE _ _ exit_ne ?_)) <;> (try simp (disch := first | omega | decide +kernel) only [q', List.map_nil, go_sem, Qa, Qb, Qc, Qd, Qe, ↓reduceIte, reduceCtorEq, Qf, Qg, Qh]) <;> clear q') | refine hN _ ?_ ?_ Wk.kk | with_reducible refine And.intro ?_ ?_ | with_reducible omega | exact ok_ints | exact cells_ints | exact no_mem | with_reducible exact plain_ints | (refine le_maxLen ?_; omega) | (refine za9 ⟨?_, ?_⟩) | (simp only [go_sem, Qc, Qb, zb1, zb2, forall_eq]; done)))
   all_goals exact ret_s2 [8] rfl rfl
 | true =>
   rw [if_pos rfl, Bool.true_and]
   rw [← hgd, h] at c1
   obtain ⟨g1, g2, g3, g4⟩ := good6 h
   have hb := good_below h
   obtain ⟨v, rfl⟩ : ∃ n : Nat, v = n := ⟨v.toNat, by omega⟩
   rw [Int.toNat_natCast] at *
   have c3 := l10Closure_ok g1 hb g2 (by omega) (show 6 <= 6 by omega)
   refine Ctr.of (n := 16) (rs := [.tmp 2, .tmp 3]) Try.func112 rfl rfl Try.ntmps112 rfl rfl (by kernel_rfl) Try.checked.mixed ?_
   simp (disch := first | omega | decide +kernel) only [go_sem, Qa, Qb, Qc, Qd, Qe, ↓reduceIte, reduceCtorEq, Qf, Qg, Qh]
   (repeat' (first | ((first | (refine gsel_split (fun q' => ?_) (fun q' => ?_) <;> (have h' := q') <;> (try simp only [za1, za2, Ba, Bb, za3, ne_eq, za4, za5, za6, Ia, Ib, Ic, Ie, Da, Bc, Bd, Be, za7, za8] at h')) | (have q' := trivial; first | refine callX_new (c1) rfl (by decide) ?_ | refine callY_new (c1) rfl ?_ | refine hE _ _ ret_ne ?_ | refine hE _ _ exit_ne ?_)) <;> (try simp (disch := first | omega | decide +kernel) only [q', go_sem, Qa, Qb, Qc, Qd, Qe, ↓reduceIte, reduceCtorEq, Qf, Qg, Qh]) <;> clear q') | refine hN _ ?_ ?_ Wk.kk | with_reducible refine And.intro ?_ ?_ | with_reducible omega | exact ok_ints | exact cells_ints | exact no_mem | with_reducible exact plain_ints | (refine le_maxLen ?_; omega) | (refine za9 ⟨?_, ?_⟩) | (simp only [go_sem, Qc, Qb, zb1, zb2, forall_eq]; done)))
   refine callX_rel [] [] [] c3 ⟨.inl rfl, .inl rfl, trivial⟩ trivial (by simp [namesI, keysO]) (by simp [dstB]) ?_
   rintro _ _ ⟨W, k, hF, rfl, rfl⟩
   refine ⟨by simp [namesOK, keysO], ?_⟩
   have hso := hF.so
   obtain ⟨a1, a2, a3, a4, a5, a6⟩ := W
   simp only at hso
   subst hso
   simp (disch := first | omega | decide +kernel) only [D.wrk, List.length_map, go_sem, Qa, Qb, Qc, Qd, Qe, ↓reduceIte, reduceCtorEq, Qf, Qg, Qh]
   (repeat' (first | ((first | (refine gsel_split (fun q' => ?_) (fun q' => ?_) <;> (have h' := q') <;> (try simp only [za1, za2, Ba, Bb, za3, ne_eq, za4, za5, za6, Ia, Ib, Ic, Ie, Da, Bc, Bd, Be, za7, za8] at h')) | (have q' := trivial; first | refine hE _ _ ret_ne ?_ | refine hE _ _ exit_ne ?_)) <;> (try simp (disch := first | omega | decide +kernel) only [q', D.wrk, List.length_map, go_sem, Qa, Qb, Qc, Qd, Qe, ↓reduceIte, reduceCtorEq, Qf, Qg, Qh]) <;> clear q') | refine hN _ ?_ ?_ Wk.kk | with_reducible refine And.intro ?_ ?_ | with_reducible omega | exact ok_ints | exact cells_ints | exact no_mem | with_reducible exact plain_ints | (refine le_maxLen ?_; omega) | (refine za9 ⟨?_, ?_⟩) | (simp only [go_sem, Qc, Qb, zb1, zb2, forall_eq]; done)))
   all_goals exact ret_s2 [] rfl rfl
theorem derivable_ok (v : Int) (cs : List (List Int)) (hl : cs.length <= 1048576) (hc : ∀ j, (cs.getD j []).length <= 1048576) :
 Ctr Try.prog 113 [.agg [.int .i64 v, .slice (cs.map D.ints)]] false (.tup [.sl 0, .d (.bool (derB v cs))]) [(0, .dp (some (52, 1)) ((derAll v cs).map D.ints) none)] := by
 have c1 := narrowOk_ok v cs 0 (by omega) fun j => by have := hc j; omega
 unfold derAll derB
 cases h : derG v cs with
 | false =>
   have h' : goodN v cs 0 = false := h
   rw [h'] at c1
   rw [if_neg (by decide), Bool.false_and]
   refine Ctr.ofK (n := 15) (rs := [.tmp 2, .tmp 3]) Try.func113 rfl rfl Try.ntmps113 rfl rfl (by kernel_rfl) Try.checked.mixed ?_
   refine Ok.endsW ?_
   refine Ok.go ?_
   simp (disch := first | omega | decide +kernel) only [List.map_nil, go_sem, Qa, Qb, Qc, Qd, Qe, ↓reduceIte, reduceCtorEq, Qf, Qg, Qh]
   (repeat' (first | ((first | (refine gsel_split (fun q' => ?_) (fun q' => ?_) <;> (have h' := q') <;> (try simp only [za1, za2, Ba, Bb, za3, ne_eq, za4, za5, za6, Ia, Ib, Ic, Ie, Da, Bc, Bd, Be, za7, za8] at h')) | (have q' := trivial; first | refine callX_new (c1) rfl (by decide) ?_ | refine callY_new (c1) rfl ?_ | refine hE _ _ ret_ne ?_ | refine hE _ _ exit_ne ?_)) <;> (try simp (disch := first | omega | decide +kernel) only [q', List.map_nil, go_sem, Qa, Qb, Qc, Qd, Qe, ↓reduceIte, reduceCtorEq, Qf, Qg, Qh]) <;> clear q') | refine hN _ ?_ ?_ Wk.kk | with_reducible refine And.intro ?_ ?_ | with_reducible omega | exact ok_ints | exact cells_ints | exact no_mem | with_reducible exact plain_ints | (refine le_maxLen ?_; omega) | (refine za9 ⟨?_, ?_⟩) | (simp only [go_sem, Qc, Qb, zb1, zb2, forall_eq]; done)))
   all_goals exact ⟨_, Wk.deep 2 rfl (by simp [flat]), ret_dpd 2 rfl rfl rfl rfl⟩
 | true =>
   have h' : goodN v cs 0 = true := h
   rw [h'] at c1
   rw [if_pos rfl, Bool.true_and]
   obtain ⟨g1, g2, g3, g4⟩ := good6 h
   have c2 := closureOf_ok (vv := v) g1 g2 (fun j => by
    by_cases hj : j < cs.length
    . have := g6_len (g1 _ (getD_mem (z := ([] : List Int)) hj)); omega
    . rw [List.getD_eq_getElem?_getD, List.getElem?_eq_none (by omega)]; simp) (show 6 <= 6 by omega)
   refine Ctr.of (n := 15) (rs := [.tmp 2, .tmp 3]) Try.func113 rfl rfl Try.ntmps113 rfl rfl (by kernel_rfl) Try.checked.mixed ?_
   simp (disch := first | omega | decide +kernel) only [go_sem, Qa, Qb, Qc, Qd, Qe, ↓reduceIte, reduceCtorEq, Qf, Qg, Qh]
   (repeat' (first | ((first | (refine gsel_split (fun q' => ?_) (fun q' => ?_) <;> (have h' := q') <;> (try simp only [za1, za2, Ba, Bb, za3, ne_eq, za4, za5, za6, Ia, Ib, Ic, Ie, Da, Bc, Bd, Be, za7, za8] at h')) | (have q' := trivial; first | refine callX_new (c1) rfl (by decide) ?_ | refine callY_new (c1) rfl ?_ | refine hE _ _ ret_ne ?_ | refine hE _ _ exit_ne ?_)) <;> (try simp (disch := first | omega | decide +kernel) only [q', go_sem, Qa, Qb, Qc, Qd, Qe, ↓reduceIte, reduceCtorEq, Qf, Qg, Qh]) <;> clear q') | refine hN _ ?_ ?_ Wk.kk | with_reducible refine And.intro ?_ ?_ | with_reducible omega | exact ok_ints | exact cells_ints | exact no_mem | with_reducible exact plain_ints | (refine le_maxLen ?_; omega) | (refine za9 ⟨?_, ?_⟩) | (simp only [go_sem, Qc, Qb, zb1, zb2, forall_eq]; done)))
   refine callX_rel [] [] [] c2 ⟨.inl rfl, .inl rfl, trivial⟩ trivial (by simp [namesI, keysO]) (by simp [dstB]) ?_
   rintro _ _ ⟨L, last, hF, rfl, rfl⟩
   refine ⟨by simp [namesOK, keysO], ?_⟩
   have hgL : ∀ p ∈ L, G6 p.1 := fun p hp => new_g6 g1 ((hF.mem p.1 p.2).1 hp)
   have c3 := clauses_ok (last := last) hgL (table_len hgL hF.nd)
   rw [hF.closV g1]
   generalize D.clo L last = dc at *
   simp (disch := first | omega | decide +kernel) only [List.length_map, go_sem, Qa, Qb, Qc, Qd, Qe, ↓reduceIte, reduceCtorEq, Qf, Qg, Qh]
   (repeat' (first | ((first | (refine gsel_split (fun q' => ?_) (fun q' => ?_) <;> (have h' := q') <;> (try simp only [za1, za2, Ba, Bb, za3, ne_eq, za4, za5, za6, Ia, Ib, Ic, Ie, Da, Bc, Bd, Be, za7, za8] at h')) | (have q' := trivial; first | refine callX_new (c3) rfl (by decide) ?_ | refine callY_new (c3) rfl ?_ | refine hE _ _ ret_ne ?_ | refine hE _ _ exit_ne ?_)) <;> (try simp (disch := first | omega | decide +kernel) only [q', List.length_map, go_sem, Qa, Qb, Qc, Qd, Qe, ↓reduceIte, reduceCtorEq, Qf, Qg, Qh]) <;> clear q') | refine hN _ ?_ ?_ Wk.kk | with_reducible refine And.intro ?_ ?_ | with_reducible omega | exact ok_ints | exact cells_ints | exact no_mem | with_reducible exact plain_ints | (refine le_maxLen ?_; omega) | (refine za9 ⟨?_, ?_⟩) | (simp only [go_sem, Qc, Qb, zb1, zb2, forall_eq]; done)))
   all_goals exact ret_dpd 1100000 rfl rfl rfl rfl
theorem implDer_ok (v : Int) (cs : List (List Int)) (hl : cs.length <= 1048576) (hc : ∀ j, (cs.getD j []).length <= 1048576) :
 Ctr Try.prog 34 [.agg [.int .i64 v, .slice (cs.map D.ints)]] false (.tup [.sl 0, .d (.bool (derB v cs))]) [(0, .dp (some (52, 1)) ((derI v cs).map D.ints) none)] := by
 have c1 := derivable_ok v cs hl hc
 unfold derI
 cases h : derB v cs with
 | false =>
   rw [h] at c1
   rw [if_neg (by decide)]
   refine Ctr.ofK (n := 14) (rs := [.tmp 2, .tmp 3]) Try.func34 rfl rfl Try.ntmps34 rfl rfl (by kernel_rfl) Try.checked.mixed ?_
   refine Ok.endsW ?_
   refine Ok.go ?_
   simp (disch := first | omega | decide +kernel) only [List.map_nil, go_sem, Qa, Qb, Qc, Qd, Qe, ↓reduceIte, reduceCtorEq, Qf, Qg, Qh]
   (repeat' (first | ((first | (refine gsel_split (fun q' => ?_) (fun q' => ?_) <;> (have h' := q') <;> (try simp only [za1, za2, Ba, Bb, za3, ne_eq, za4, za5, za6, Ia, Ib, Ic, Ie, Da, Bc, Bd, Be, za7, za8] at h')) | (have q' := trivial; first | refine callX_new (c1) rfl (by decide) ?_ | refine callY_new (c1) rfl ?_ | refine hE _ _ ret_ne ?_ | refine hE _ _ exit_ne ?_)) <;> (try simp (disch := first | omega | decide +kernel) only [q', List.map_nil, go_sem, Qa, Qb, Qc, Qd, Qe, ↓reduceIte, reduceCtorEq, Qf, Qg, Qh]) <;> clear q') | refine hN _ ?_ ?_ Wk.kk | with_reducible refine And.intro ?_ ?_ | with_reducible omega | exact ok_ints | exact cells_ints | exact no_mem | with_reducible exact plain_ints | (refine le_maxLen ?_; omega) | (refine za9 ⟨?_, ?_⟩) | (simp only [go_sem, Qc, Qb, zb1, zb2, forall_eq]; done)))
   all_goals exact ⟨_, Wk.deep 2 rfl (by simp [flat]), ret_dpd 2 rfl rfl rfl rfl⟩
 | true =>
   rw [h] at c1
   rw [if_pos rfl]
   have hd : derAll v cs = closV cs 6 := by
    unfold derB at h
    rw [Bc] at h
    rw [derAll, if_pos h.1]
   rw [hd] at c1
   refine Ctr.of (n := 14) (rs := [.tmp 2, .tmp 3]) Try.func34 rfl rfl Try.ntmps34 rfl rfl (by kernel_rfl) Try.checked.mixed ?_
   simp (disch := first | omega | decide +kernel) only [go_sem, Qa, Qb, Qc, Qd, Qe, ↓reduceIte, reduceCtorEq, Qf, Qg, Qh]
   (repeat' (first | ((first | (refine gsel_split (fun q' => ?_) (fun q' => ?_) <;> (have h' := q') <;> (try simp only [za1, za2, Ba, Bb, za3, ne_eq, za4, za5, za6, Ia, Ib, Ic, Ie, Da, Bc, Bd, Be, za7, za8] at h')) | (have q' := trivial; first | refine callX_new (c1) rfl (by decide) ?_ | refine callY_new (c1) rfl ?_ | refine hE _ _ ret_ne ?_ | refine hE _ _ exit_ne ?_)) <;> (try simp (disch := first | omega | decide +kernel) only [q', go_sem, Qa, Qb, Qc, Qd, Qe, ↓reduceIte, reduceCtorEq, Qf, Qg, Qh]) <;> clear q') | refine hN _ ?_ ?_ Wk.kk | with_reducible refine And.intro ?_ ?_ | with_reducible omega | exact ok_ints | exact cells_ints | exact no_mem | with_reducible exact plain_ints | (refine le_maxLen ?_; omega) | (refine za9 ⟨?_, ?_⟩) | (simp only [go_sem, Qc, Qb, zb1, zb2, forall_eq]; done)))
   all_goals exact ret_dpd 900000 rfl rfl rfl rfl
theorem specDer_ok (v : Int) (cs : List (List Int)) (hl : cs.length <= 1048576) (hc : ∀ j, (cs.getD j []).length <= 1048576) :
 Ctr Try.prog 33 [.agg [.int .i64 v, .slice (cs.map D.ints)]] false (.tup [.sl 0, .d (.bool (derB v cs))]) [(0, .dp (some (52, 1)) ((derI v cs).map D.ints) none)] := by
 have c1 := l15All_ok v cs hl hc
 unfold derI
 cases h : derB v cs with
 | false =>
   rw [h] at c1
   rw [if_neg (by decide)]
   refine Ctr.ofK (n := 16) (rs := [.tmp 2, .tmp 3]) Try.func33 rfl rfl Try.ntmps33 rfl rfl (by kernel_rfl) Try.checked.mixed ?_
   refine Ok.endsW ?_
   refine Ok.go ?_
   simp (disch := first | omega | decide +kernel) only [List.map_nil, go_sem, Qa, Qb, Qc, Qd, Qe, ↓reduceIte, reduceCtorEq, Qf, Qg, Qh]
   (repeat' (first | ((first | (refine gsel_split (fun q' => ?_) (fun q' => ?_) <;> (have h' := q') <;> (try simp only [za1, za2, Ba, Bb, za3, ne_eq, za4, za5, za6, Ia, Ib, Ic, Ie, Da, Bc, Bd, Be, za7, za8] at h')) | (have q' := trivial; first | refine callX_shared (c1) rfl (by decide) ?_ | refine callY_shared (c1) rfl ?_ | refine hE _ _ ret_ne ?_ | refine hE _ _ exit_ne ?_)) <;> (try simp (disch := first | omega | decide +kernel) only [q', List.map_nil, go_sem, Qa, Qb, Qc, Qd, Qe, ↓reduceIte, reduceCtorEq, Qf, Qg, Qh]) <;> clear q') | refine hN _ ?_ ?_ Wk.kk | with_reducible refine And.intro ?_ ?_ | with_reducible omega | exact ok_ints | exact cells_ints | exact no_mem | with_reducible exact plain_ints | (refine le_maxLen ?_; omega) | (refine za9 ⟨?_, ?_⟩) | (simp only [go_sem, Qc, Qb, zb1, zb2, forall_eq]; done)))
   all_goals exact ⟨_, Wk.deep 13 rfl (by simp [flat]), ret_dpd 13 rfl rfl rfl rfl⟩
 | true =>
   rw [h] at c1
   rw [if_pos rfl]
   have h2 := h
   unfold derB at h2
   rw [Bc] at h2
   have hd : derAll v cs = closV cs 6 := by rw [derAll, if_pos h2.1]
   rw [hd] at c1
   obtain ⟨g1, g2, g3, g4⟩ := good6 h2.1
   have c4 := l10Copy_ok (closV cs 6) (by have := closV_len (w := 6) g1; omega) (fun x hx => by have := g6_len (closV_g6 g1 x hx); omega)
   refine Ctr.of (n := 16) (rs := [.tmp 2, .tmp 3]) Try.func33 rfl rfl Try.ntmps33 rfl rfl (by kernel_rfl) Try.checked.mixed ?_
   simp (disch := first | omega | decide +kernel) only [go_sem, Qa, Qb, Qc, Qd, Qe, ↓reduceIte, reduceCtorEq, Qf, Qg, Qh]
   (repeat' (first | ((first | (refine gsel_split (fun q' => ?_) (fun q' => ?_) <;> (have h' := q') <;> (try simp only [za1, za2, Ba, Bb, za3, ne_eq, za4, za5, za6, Ia, Ib, Ic, Ie, Da, Bc, Bd, Be, za7, za8] at h')) | (have q' := trivial; first | refine callX_new (c4) rfl (by decide) ?_ | refine callY_new (c4) rfl ?_ | refine callX_shared (c1) rfl (by decide) ?_ | refine callY_shared (c1) rfl ?_ | refine hE _ _ ret_ne ?_ | refine hE _ _ exit_ne ?_)) <;> (try simp (disch := first | omega | decide +kernel) only [q', go_sem, Qa, Qb, Qc, Qd, Qe, ↓reduceIte, reduceCtorEq, Qf, Qg, Qh]) <;> clear q') | refine hN _ ?_ ?_ Wk.kk | with_reducible refine And.intro ?_ ?_ | with_reducible omega | exact ok_ints | exact cells_ints | exact no_mem | with_reducible exact plain_ints | (refine le_maxLen ?_; omega) | (refine za9 ⟨?_, ?_⟩) | (simp only [go_sem, Qc, Qb, zb1, zb2, forall_eq]; done)))
   all_goals exact ret_dpd 1600000 rfl rfl rfl rfl
end Abs.Y
