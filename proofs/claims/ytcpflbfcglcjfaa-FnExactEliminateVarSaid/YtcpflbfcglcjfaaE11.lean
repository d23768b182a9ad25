/- What functions of this program compute, as contracts over plain data, with what the proofs need of them. No condition. -/
import Derived.Test.YtcpflbfcglcjfaaAbsBox
import Derived.Test.YtcpflbfcglcjfaaAbsLoopO
import Derived.Test.YtcpflbfcglcjfaaAbsShelf2
import Derived.Lib.RowBridge
set_option linter.all false
open Nat renaming reduceEqDiff -> Qa, reduceLT -> Qb, reduceAdd -> Qc, reduceMul -> Qd, reduceSub -> Qe, reduceLeDiff -> Qf, reduceSubDiff -> Qg, reduceBEq -> Qh
open Bool renaming not_eq_true' -> Ba, not_eq_false' -> Bb, and_eq_true -> Bc, or_eq_true -> Bd, or_eq_false_iff -> Be
open Int renaming ofNat_lt -> Ia, ofNat_le -> Ib, not_lt -> Ic, not_le -> Ie
open Decidable renaming not_not -> Da
namespace Abs.Y
open Go Go.Proofs Abs Go.Sort Go.Shelf Go.Lib Go.RowKit
set_option maxRecDepth 100000

def sortC (cs : List (List Int)) : List (List Int) := cs.mergeSort leC
def cfC (cs : List (List Int)) (i j : Nat) : Int := cmpCI (cs.getD i []) (cs.getD j [])
theorem sm_nil : Sm [] := fun x hx => by cases hx
theorem sm_getD {cs : List (List Int)} (hs : ∀ x ∈ cs, Sm x) (i : Nat) : Sm (cs.getD i []) := by
 by_cases h : i < cs.length
 . exact hs _ (getD_mem h)
 . rw [List.getD_eq_getElem?_getD, List.getElem?_eq_none (by omega)]; exact sm_nil
theorem cfC_lt (cs : List (List Int)) (i j : Nat) : ltOf (cfC cs) i j = befI (cs.getD i []) (cs.getD j []) := rfl
theorem cfC_swo {cs : List (List Int)} (hs : ∀ x ∈ cs, Sm x) : SWO (ltOf (cfC cs)) where
 irrefl i := by rw [cfC_lt]; exact befI_self (sm_getD hs i)
 trans i j k h1 h2 := by
  rw [cfC_lt] at *; exact bef_trans (sm_getD hs i) (sm_getD hs j) (sm_getD hs k) h1 h2
 ntrans i j k h1 h2 := by
  rw [cfC_lt] at *
  have si := sm_getD hs i
  have sj := sm_getD hs j
  have sk := sm_getD hs k
  cases h : befI (cs.getD i []) (cs.getD k []) with
  | false => rfl
  | true =>
    rcases bef_total si sj with h' | h' | h'
    . rw [h1] at h'; cases h'
    . have := bef_trans sj si sk h' h
      rw [h2] at this; cases this
    . rw [h'] at h; rw [h2] at h; cases h
theorem leC_anti {x y : List Int} (sx : Sm x) (sy : Sm y) (h1 : leC x y = true) (h2 : leC y x = true) : x = y := by
 unfold leC at *
 simp only [Ba] at *
 rcases bef_total sx sy with h' | h' | h'
 . rw [h2] at h'; cases h'
 . rw [h1] at h'; cases h'
 . exact h'
theorem sorted_uniq : ∀ {l1 l2 : List (List Int)}, (∀ x ∈ l1, Sm x) -> l1.Perm l2 -> l1.Pairwise (fun x y => leC x y = true) -> l2.Pairwise (fun x y => leC x y = true) -> l1 = l2
 | [], l2, _, hp, _, _ => by rw [List.nil_perm.1 hp]
 | x :: r, [], _, hp, _, _ => absurd hp.length_eq (by simp)
 | x :: r, y :: s, hs, hp, h1, h2 => by
   have p1 := List.pairwise_cons.1 h1
   have p2 := List.pairwise_cons.1 h2
   have sx := hs x (by simp)
   have sy : Sm y := hs y (hp.mem_iff.2 (by simp))
   have hxy : x = y := by
    rcases List.mem_cons.1 (hp.mem_iff.1 (show x ∈ x :: r by simp)) with e | hx
    . exact e
    . rcases List.mem_cons.1 (hp.mem_iff.2 (show y ∈ y :: s by simp)) with e | hy
      . exact e.symm
      . exact leC_anti sx sy (p1.1 y hy) (p2.1 x hx)
   subst hxy
   rw [sorted_uniq (fun z hz => hs z (by simp [hz])) (List.Perm.cons_inv hp) p1.2 p2.2]
theorem sortC_perm (cs : List (List Int)) : (sortC cs).Perm cs := List.mergeSort_perm cs leC
theorem sortC_sorted {cs : List (List Int)} (hs : ∀ x ∈ cs, Sm x) : (sortC cs).Pairwise fun x y => leC x y = true := by
 -- sort the places, then read
 have h := List.pairwise_mergeSort (le := fun (i j : Nat) => leC (cs.getD i []) (cs.getD j [])) (fun i j k h1 h2 => leC_trans (sm_getD hs i) (sm_getD hs j) (sm_getD hs k) h1 h2) (fun i j => leC_total (sm_getD hs i) (sm_getD hs j)) (List.range cs.length)
 have e : sortC cs = ((List.range cs.length).mergeSort fun i j => leC (cs.getD i []) (cs.getD j [])).map fun i => cs.getD i [] := by
  have h1 : cs = (List.range cs.length).map fun i => cs.getD i [] := by
   apply List.ext_getElem (by simp)
   intro i h1 h2
   simp [List.getD_eq_getElem?_getD, h1]
  rw [List.map_mergeSort (r := fun i j => leC (cs.getD i []) (cs.getD j [])) (s := leC) (fun _ _ _ _ => rfl), ← h1]
  rfl
 rw [e, List.pairwise_map]
 exact h
theorem range_map_getD (cs : List (List Int)) : (List.range cs.length).map (fun i => cs.getD i []) = cs := by
 apply List.ext_getElem (by simp)
 intro i h1 h2
 simp [List.getD_eq_getElem?_getD, h2]
theorem bitsLen_ok (n : Nat) (hn : n <= 4294967296) : Ctr Try.prog 189 [.int .u64 (n : Int)] false (.d (.int .i64 (Lib.bitLen n : Nat))) [] := by
 refine ⟨⟨_, Try.func189, by kernel_rfl, by kernel_rfl⟩, fun S w vs hl hr => ?_⟩
 obtain ⟨v, rfl⟩ : ∃ v, vs = [v] := by
  match vs, hl with
  | [a], _ => exact ⟨a, rfl⟩
 have h := hr 0 (by simp)
 simp only [List.getD_cons_zero] at h
 cases h
 refine (Try.len_w n hn w).mono fun en w' ⟨he, hw⟩ => ⟨_, he, ?_, ?_⟩
 . subst hw; exact ⟨rfl, rfl, rfl, Nat.le_refl _, Nat.le_refl _, fun _ _ _ => rfl, Nat.le_refl _⟩
 . exact ⟨fun _ => Go.undef, fun _ _ => False, .d (.int _ _), fun j o hj => by simp [lk] at hj, fun j o g hj => by simp [lk] at hj, fun j j' o o' g hj => by simp [lk] at hj⟩
def zTg : Tg := (.slice none 0 0, [])
def srtIx (cs : List (List Int)) (L : Nat) : List Nat := (pdq (ltOf (cfC cs)) (Array.range cs.length) 0 cs.length L true true).toList
theorem srtIx_ok {cs : List (List Int)} (L : Nat) (hs : ∀ x ∈ cs, Sm x) : (srtIx cs L).Perm (List.range cs.length) ∧ (srtIx cs L).map (fun i => cs.getD i []) = sortC cs := by
 have hps := pdq_sorts (ltOf (cfC cs)) (cfC_swo hs) (Array.range cs.length) 0 (Array.range cs.length).size L true true (Nat.zero_le _) (Nat.le_refl _) (Or.inl rfl)
 unfold srtIx
 rw [Array.size_range] at hps
 generalize pdq (ltOf (cfC cs)) (Array.range cs.length) 0 cs.length L true true = d' at *
 obtain ⟨hp, hso⟩ := hps
 obtain ⟨hp1, _, hp3⟩ := hp
 simp only [Array.size_range] at hp1
 have hx1 : d'.extract 0 cs.length = d' := by rw [← hp1]; simp
 have hx2 : (Array.range cs.length).extract 0 cs.length = Array.range cs.length := by
  have : (Array.range cs.length).size = cs.length := by simp
  conv => lhs; rw [← this]
  simp
 rw [hx1, hx2, Array.toList_range] at hp3
 refine ⟨hp3, ?_⟩
 have p1 : (d'.toList.map fun i => cs.getD i []).Perm cs := by
  have := hp3.map fun i => cs.getD i []
  rwa [range_map_getD] at this
 refine sorted_uniq (fun x hx => hs x (p1.mem_iff.1 hx)) (p1.trans (sortC_perm cs).symm) ?_ (sortC_sorted hs)
 rw [List.pairwise_map, List.pairwise_iff_getElem]
 intro i j hi hj hij
 have := hso i j (Nat.zero_le _) hij (by rw [Array.length_toList] at hj; omega)
 rw [cfC_lt] at this
 have hi' : i < d'.size := by rw [← Array.length_toList]; exact hi
 have hj' : j < d'.size := by rw [← Array.length_toList]; exact hj
 rw [getElem!_pos d' i hi', getElem!_pos d' j hj'] at this
 simp only [Array.getElem_toList]
 unfold leC
 rw [this]; rfl
def srtT (ps : List Tg) (L : Nat) : List Tg := (srtIx (ps.map (·.2)) L).map fun i => ps.getD i zTg
theorem srtT_perm (ps : List Tg) (L : Nat) (hs : ∀ p ∈ ps, Sm p.2) : (srtT ps L).Perm ps ∧ (srtT ps L).map (·.2) = sortC (ps.map (·.2)) := by
 obtain ⟨h1, h2⟩ := srtIx_ok L (cs := ps.map (·.2)) fun x hx => by obtain ⟨p, hp, rfl⟩ := List.mem_map.1 hx; exact hs p hp
 have e : (List.range ps.length).map (fun i => ps.getD i zTg) = ps := by
  apply List.ext_getElem (by simp)
  intro i h1 h2
  simp [List.getD_eq_getElem?_getD, h2]
 refine ⟨?_, ?_⟩
 . have := h1.map fun i => ps.getD i zTg
   rw [List.length_map, e] at this
   exact this
 . rw [← h2]
   unfold srtT
   rw [List.map_map]
   apply List.map_congr_left
   intro i hi
   have : i < ps.length := by have := h1.mem_iff.1 hi; simpa using this
   simp [List.getD_eq_getElem?_getD, this]
theorem tg_one (p : Tg) : (D.tg p).one = true := by
 obtain ⟨u, c⟩ := p
 cases c <;> rfl
set_option maxHeartbeats 4000000 in
theorem pdqT_ok (ps : List Tg) (L : Nat) (hL : L <= 4294967296) (h0 : ps ≠ []) (hn : ps.length <= 4294967296) (hl : ∀ p ∈ ps, p.2.length <= 4294967296) (hs : ∀ p ∈ ps, Sm p.2) :
 CtrM Try.prog 188 [.sl 0, .d (.int .i64 0), .d (.int .i64 (ps.length : Nat)), .d (.int .i64 (L : Nat)), .fn (.func 102) []] [(0, .arr 52 1 (ps.map D.tg))] [0] true (.tup []) [(0, .arr 52 1 ((srtT ps L).map D.tg))] := by
 have hone : ∀ x ∈ ps.map D.tg, x.one = true := fun x hx => by obtain ⟨c, _, rfl⟩ := List.mem_map.1 hx; exact tg_one c
 have hlen := (srtT_perm ps L hs).1.length_eq
 refine CtrM.rowD (es := ps.map D.tg) (es' := (srtT ps L).map D.tg) (.slice none 0 0) false ⟨_, Try.func188, by kernel_rfl, by kernel_rfl⟩ hone (by simp [hlen]) (fun _ => by simp [hlen]) fun S β w rv hl' hr => ?_
 obtain ⟨v0, v1, v2, v3, rfl⟩ : ∃ v0 v1 v2 v3, rv = [v0, v1, v2, v3] := by
  match rv, hl' with
  | [a, b, c, d], _ => exact ⟨a, b, c, d, rfl⟩
 have e0 : v0 = .int .i64 0 := by
  have := hr 0 (by simp)
  simp only [List.getD_cons_zero] at this
  cases this with
  | d h => cases h; rfl
 have e1 : v1 = .int .i64 (ps.length : Nat) := by
  have := hr 1 (by simp)
  simp only [List.getD_cons_zero, List.getD_cons_succ] at this
  cases this with
  | d h => cases h; rfl
 have e2 : v2 = .int .i64 (L : Nat) := by
  have := hr 2 (by simp)
  simp only [List.getD_cons_zero, List.getD_cons_succ] at this
  cases this with
  | d h => cases h; rfl
 have e3 : v3 = .func (.func 102) #[] #[] := by
  have := hr 3 (by simp)
  simp only [List.getD_cons_zero, List.getD_cons_succ] at this
  cases this with
  | fn h1 h2 => obtain rfl := List.eq_nil_of_length_eq_zero h1; rfl
 subst e0 e1 e2 e3
 refine ⟨fun h => absurd (List.map_eq_nil_iff.1 h) h0, fun g cap xs hS hxl hxr hH hg hcap _ => ?_⟩
 have eg : ∀ args w, (callFunc 102 args).run Try.prog w = .ok (.enter 102 args) w := enters_of Try.func102 (by kernel_rfl) rfl
 have hsC : ∀ x ∈ ps.map (·.2), Sm x := fun x hx => by obtain ⟨p, hp, rfl⟩ := List.mem_map.1 hx; exact hs p hp
 have hlD : ∀ i, (ps.getD i zTg).2.length <= 4294967296 := fun i => by
  by_cases h : i < ps.length
  . exact hl _ (getD_mem h)
  . rw [List.getD_eq_getElem?_getD, List.getElem?_eq_none (by omega)]; simp [zTg]
 have hgd : ∀ i, (ps.map D.tg).getD i (D.ints []) = D.tg (ps.getD i zTg) := fun i => by
  simp only [List.getD_eq_getElem?_getD, List.getElem?_map]
  cases ps[i]? <;> rfl
 have hcf : ∀ i, (ps.map (·.2)).getD i [] = (ps.getD i zTg).2 := fun i => by
  simp only [List.getD_eq_getElem?_getD, List.getElem?_map]
  cases ps[i]? <;> rfl
 have hc : CmpLays1 Try.prog 102 #[] (mkR (.slice none 0 0) xs) (cfC (ps.map (·.2))) g 0 (Array.range (ps.map D.tg).length).size w :=
  Ctr.cmpLays (es := ps.map D.tg) (zd := D.ints []) (fun w => .nil _) (fun i j => by
   rw [hgd, hgd]
   unfold cfC
   rw [hcf, hcf]
   exact (compareClauses_ok _ _ (hlD i) (hlD j)).strip (by rw [D.stripL, D.stripL, D.stripL, strip_tg, strip_tg]; rfl)) hS hxl hxr
 have h := Any.pdqsortCmpFunc_all Try.layQ (mkR (.slice none 0 0) xs) (cfC (ps.map (·.2))) 102 #[] (cfC_swo hsC) g 0 cap (Array.range (ps.map D.tg).length) w eg hc ⟨mkR_one rfl hone hxl hxr, hH, hg⟩
  ((Array.range (ps.map D.tg).length).size + 1) 0 (Array.range (ps.map D.tg).length).size L (Array.range (ps.map D.tg).length) w (by omega) rfl (SW.start hH) (Nat.zero_le _) (Nat.le_refl _) (by simp; omega) (by omega) (Or.inl rfl)
 obtain ⟨q1, q2⟩ := srtIx_ok L hsC
 have hlen2 := q1.length_eq
 unfold srtT
 unfold srtIx at *
 simp only [List.length_map, Array.size_range] at h q1 q2 hlen2 ⊢
 generalize pdq (ltOf (cfC (ps.map (·.2)))) (Array.range ps.length) 0 ps.length L true true = d' at *
 refine Calls.mono h fun en w' ⟨he, n, os, hw⟩ => ⟨he, n, d', os, ?_, hw⟩
 rw [List.length_range, Array.length_toList] at hlen2
 have htake : d'.toList.take d'.toList.length = d'.toList := List.take_length
 refine ⟨by simp [hlen2], by simp [hlen2], fun i hi => ?_, ?_⟩
 . simp only [List.length_map] at hi
   rw [htake] at hi
   have := q1.mem_iff.1 hi
   simpa using this
 . simp only [List.length_map]
   rw [htake, List.map_map]
   apply List.map_congr_left
   intro i hi
   have : i < ps.length := by have := q1.mem_iff.1 hi; simpa using this
   simp [List.getD_eq_getElem?_getD, this]
theorem bitLen_le' (n : Nat) (hn : n <= 4294967296) : Lib.bitLen n <= 4294967296 := Nat.le_trans (Lib.bitLen_le n 62 (by omega) (by omega)) (by omega)
end Abs.Y

namespace Abs.Y
open Go Go.Proofs Abs Go.Lib
set_option maxRecDepth 100000

theorem insertion0_ok : CtrM Try.prog 240 [.sl 0, .d (.int .i64 0), .d (.int .i64 0), .fn (.func 102) []] [(0, .arr 52 1 [])] [0] true (.tup []) [(0, .arr 52 1 [])] := by
 refine CtrM.of (n := 53) (rs := []) Try.func240 rfl rfl Try.ntmps240 rfl rfl (by kernel_rfl) Try.checked.mixed ?_; intro u
 simp (disch := first | omega | decide +kernel) only [go_sem, Qa, Qb, Qc, Qd, Qe, ↓reduceIte, reduceCtorEq, Qf, Qg, Qh]
 refine Ok.loopN [] (fun i _ => []) (fun _ (_ : Unit) => []) 0 (fun i _ => True) () trivial (Wk.kk) ?_
 rintro R i L hN hE hi _
 obtain rfl : i = 0 := by omega
 simp (disch := first | omega | decide +kernel) only [go_sem, Qa, Qb, Qc, Qd, Qe, ↓reduceIte, reduceCtorEq, Qf, Qg, Qh]
 (repeat' (first | ((first | (refine gsel_split (fun q' => ?_) (fun q' => ?_) <;> (have h' := q') <;> (try simp only [za1, za2, Ba, Bb, za3, ne_eq, za4, za5, za6, Ia, Ib, Ic, Ie, Da, Bc, Bd, Be, za7, za8] at h') <;> try (exfalso; omega)) | (have q' := trivial; first | refine hE _ _ ret_ne ?_ | refine hE _ _ exit_ne ?_)) <;> (try simp (disch := first | omega | decide +kernel) only [q', go_sem, Qa, Qb, Qc, Qd, Qe, ↓reduceIte, reduceCtorEq, Qf, Qg, Qh]) <;> clear q') | refine hN _ ?_ ?_ Wk.kk | with_reducible refine And.intro ?_ ?_ | with_reducible omega | exact ok_ints | exact cells_ints | exact no_mem | with_reducible exact plain_ints | (refine le_maxLen ?_; omega) | (refine za9 ⟨?_, ?_⟩) | (simp only [go_sem, Qc, Qb, zb1, zb2, forall_eq]; done)))
 all_goals exact retM_n rfl rfl rfl (.inl rfl)
theorem pdq0_ok (L : Nat) : CtrM Try.prog 188 [.sl 0, .d (.int .i64 0), .d (.int .i64 0), .d (.int .i64 (L : Nat)), .fn (.func 102) []] [(0, .arr 52 1 [])] [0] true (.tup []) [(0, .arr 52 1 [])] := by
 have c1 := insertion0_ok
 refine CtrM.of (n := 148) (rs := []) Try.func188 rfl rfl Try.ntmps188 rfl rfl (by kernel_rfl) Try.checked.mixed ?_; intro u
 simp (disch := first | omega | decide +kernel) only [go_sem, Qa, Qb, Qc, Qd, Qe, ↓reduceIte, reduceCtorEq, Qf, Qg, Qh]
 refine Ok.loopN [] (fun i _ => []) (fun _ (_ : Unit) => []) 0 (fun i _ => True) () trivial (Wk.kk) ?_
 rintro R i Z hN hE hi _
 obtain rfl : i = 0 := by omega
 simp (disch := first | omega | decide +kernel) only [go_sem, Qa, Qb, Qc, Qd, Qe, ↓reduceIte, reduceCtorEq, Qf, Qg, Qh]
 (repeat' (first | ((first | (refine gsel_split (fun q' => ?_) (fun q' => ?_) <;> (have h' := q') <;> (try simp only [za1, za2, Ba, Bb, za3, ne_eq, za4, za5, za6, Ia, Ib, Ic, Ie, Da, Bc, Bd, Be, za7, za8] at h') <;> try (exfalso; omega)) | (have q' := trivial; first | refine callX_mut [0] [0] [] (c1) ⟨.inl rfl, .inl rfl, .inl rfl, .inl rfl, trivial⟩ ⟨rfl, trivial⟩ rfl (by simp [dstB]) ?_ | refine hE _ _ ret_ne ?_ | refine hE _ _ exit_ne ?_)) <;> (try simp (disch := first | omega | decide +kernel) only [q', go_sem, Qa, Qb, Qc, Qd, Qe, ↓reduceIte, reduceCtorEq, Qf, Qg, Qh]) <;> clear q') | refine hN _ ?_ ?_ Wk.kk | with_reducible refine And.intro ?_ ?_ | with_reducible omega | exact ok_ints | exact cells_ints | exact no_mem | with_reducible exact plain_ints | (refine le_maxLen ?_; omega) | (refine za9 ⟨?_, ?_⟩) | (simp only [go_sem, Qc, Qb, zb1, zb2, forall_eq]; done)))
 all_goals first | exact retM_n rfl rfl rfl (.inl rfl) | exact retM_u rfl rfl rfl (.inl rfl)
theorem sortT_ok (ps : List Tg) (hn : ps.length <= 4294967296) (hl : ∀ p ∈ ps, p.2.length <= 4294967296) (hs : ∀ p ∈ ps, Sm p.2) :
 CtrM Try.prog 101 [.sl 0, .fn (.func 102) []] [(0, .arr 52 1 (ps.map D.tg))] [0] true (.tup []) [(0, .arr 52 1 ((srtT ps (Lib.bitLen ps.length)).map D.tg))] := by
 have c1 := bitsLen_ok ps.length hn
 have c2 : CtrM Try.prog 188 [.sl 0, .d (.int .i64 0), .d (.int .i64 (ps.length : Nat)), .d (.int .i64 (Lib.bitLen ps.length : Nat)), .fn (.func 102) []] [(0, .arr 52 1 (ps.map D.tg))] [0] true (.tup []) [(0, .arr 52 1 ((srtT ps (Lib.bitLen ps.length)).map D.tg))] := by
  by_cases h0 : ps = []
  . subst h0
    have e := (srtT_perm [] (Lib.bitLen 0) (fun p hp => nomatch hp)).1
    rw [List.length_nil, List.perm_nil.1 e]
    exact pdq0_ok _
  . exact pdqT_ok ps _ (bitLen_le' _ hn) h0 hn hl hs
 have hw : IntKind.u64.wrap (ps.length : Int) = (ps.length : Nat) := by simp [IntKind.wrap, IntKind.bits, IntKind.signed]; omega
 refine CtrM.of (n := 14) (rs := []) Try.func101 rfl rfl Try.ntmps101 rfl rfl (by kernel_rfl) Try.checked.mixed ?_; intro u
 simp (disch := first | omega | decide +kernel) only [List.length_map, hw, go_sem, Qa, Qb, Qc, Qd, Qe, ↓reduceIte, reduceCtorEq, Qf, Qg, Qh]
 (repeat' (first | ((first | (refine gsel_split (fun q' => ?_) (fun q' => ?_) <;> (have h' := q') <;> (try simp only [za1, za2, Ba, Bb, za3, ne_eq, za4, za5, za6, Ia, Ib, Ic, Ie, Da, Bc, Bd, Be, za7, za8] at h') <;> try (exfalso; omega)) | (have q' := trivial; first | refine callX_new (c1) rfl (by decide) ?_ | refine callY_new (c1) rfl ?_ | refine callX_mut [0] [0] [] (c2) ⟨.inl rfl, .inl rfl, .inl rfl, .inl rfl, .inl rfl, trivial⟩ ⟨rfl, trivial⟩ rfl (by simp [dstB]) ?_ | refine hE _ _ ret_ne ?_ | refine hE _ _ exit_ne ?_)) <;> (try simp (disch := first | omega | decide +kernel) only [q', List.length_map, hw, go_sem, Qa, Qb, Qc, Qd, Qe, ↓reduceIte, reduceCtorEq, Qf, Qg, Qh]) <;> clear q') | refine hN _ ?_ ?_ Wk.kk | with_reducible refine And.intro ?_ ?_ | with_reducible omega | exact ok_ints | exact cells_ints | exact no_mem | with_reducible exact plain_ints | (refine le_maxLen ?_; omega) | (refine za9 ⟨?_, ?_⟩) | (simp only [go_sem, Qc, Qb, zb1, zb2, forall_eq]; done)))
 all_goals first | exact retM_n rfl rfl rfl (.inl rfl) | exact retM_u rfl rfl rfl (.inl rfl)
end Abs.Y

namespace Abs.Y
open Go Go.Proofs Abs
set_option maxRecDepth 100000

def cmpA {α : Type} (z : α) (f : α -> List Int) (l : List α) : Nat -> List α
 | 0 => []
 | i + 1 => if i = 0 ∨ f (l.getD i z) ≠ f (l.getD (i - 1) z) then cmpA z f l i ++ [l.getD i z] else cmpA z f l i
section
variable {α : Type} {z : α} {f : α -> List Int} {l : List α}
theorem cmpA_sub : ∀ i, i <= l.length -> (cmpA z f l i).Sublist (l.take i)
 | 0, _ => by simp [cmpA]
 | i + 1, hi => by
   have ih := cmpA_sub i (by omega)
   rw [cmpA, take_succ z l i (by omega)]
   split
   . exact ih.append (List.Sublist.refl _)
   . exact ih.trans (List.sublist_append_left _ _)
theorem cmpA_mem (c : List Int) : ∀ i, i <= l.length -> (c ∈ (cmpA z f l i).map f ↔ c ∈ (l.take i).map f)
 | 0, _ => by simp [cmpA]
 | i + 1, hi => by
   have ih := cmpA_mem c i (by omega)
   rw [cmpA, take_succ z l i (by omega), List.map_append, List.mem_append, ← ih]
   split
   . rw [List.map_append, List.mem_append]
   . rename_i h
     constructor
     . exact .inl
     . rintro (h1 | h1)
       . exact h1
       . have h0 : ¬ i = 0 := fun e => h (.inl e)
         have he : f (l.getD i z) = f (l.getD (i - 1) z) := Classical.byContradiction fun e => h (.inr e)
         rw [ih]
         simp only [List.map_cons, List.map_nil, List.mem_singleton] at h1
         rw [h1, he]
         refine List.mem_map.2 ⟨_, ?_, rfl⟩
         obtain ⟨j, rfl⟩ : ∃ j, i = j + 1 := ⟨i - 1, by omega⟩
         rw [take_succ z l j (by omega), Nat.add_sub_cancel]
         simp
theorem cmpA_srt (hs : ∀ x ∈ l, Sm (f x)) (ho : (l.map f).Pairwise fun x y => leC x y = true) : ∀ i, i <= l.length -> Srt ((cmpA z f l i).map f)
 | 0, _ => ⟨by simp [cmpA], by simp [cmpA]⟩
 | i + 1, hi => by
   have ih := cmpA_srt hs ho i (by omega)
   have hm : ∀ c, c ∈ (cmpA z f l i).map f ↔ c ∈ (l.take i).map f := fun c => cmpA_mem c i (by omega)
   have hle : ∀ j k (hj : j < k) (hk : k < l.length), leC (f (l.getD j z)) (f (l.getD k z)) = true := fun j k hj hk => by
    have := List.pairwise_iff_getElem.1 ho j k (by rw [List.length_map]; omega) (by rw [List.length_map]; omega) hj
    simp only [List.getElem_map] at this
    rw [List.getD_eq_getElem?_getD, List.getD_eq_getElem?_getD, List.getElem?_eq_getElem hk, List.getElem?_eq_getElem (show j < l.length by omega)]
    exact this
   have hsd : ∀ j, j < l.length -> Sm (f (l.getD j z)) := fun j hj => hs _ (getD_mem hj)
   have hx := hsd i (by omega)
   rw [cmpA]
   split
   . rename_i h
     rw [List.map_append]
     refine ⟨?_, fun c hc => ?_⟩
     . rw [List.pairwise_append]
       refine ⟨ih.1, by simp, fun a ha b hb => ?_⟩
       simp only [List.map_cons, List.map_nil, List.mem_singleton] at hb
       subst hb
       rw [hm] at ha
       obtain ⟨x, hx1, rfl⟩ := List.mem_map.1 ha
       obtain ⟨j, hj, rfl⟩ := List.mem_take_iff_getElem.1 hx1
       rw [Nat.lt_min] at hj
       have ej : l[j] = l.getD j z := by rw [List.getD_eq_getElem?_getD, List.getElem?_eq_getElem hj.2, Option.getD_some]
       rw [ej]
       have h1 := hle j i hj.1 (by omega)
       rcases bef_total (hsd j (by omega)) hx with h2 | h2 | h2
       . exact h2
       . unfold leC at h1
         rw [h2] at h1; cases h1
       . exfalso
         rcases h with h | h
         . omega
         . apply h
           -- both are the one before
           have h3 : leC (f (l.getD (i - 1) z)) (f (l.getD i z)) = true := hle (i - 1) i (by omega) (by omega)
           by_cases e : j = i - 1
           . rw [← e, h2]
           . have h4 := hle j (i - 1) (by omega) (by omega)
             rw [h2] at h4
             have sp := hsd (i - 1) (by omega)
             rcases bef_total hx sp with h5 | h5 | h5
             . unfold leC at h3
               rw [h5] at h3; cases h3
             . unfold leC at h4
               rw [h5] at h4; cases h4
             . exact h5
     . rcases List.mem_append.1 hc with hc | hc
       . exact ih.2 c hc
       . simp only [List.map_cons, List.map_nil, List.mem_singleton] at hc
         subst hc; exact hx
   . exact ih
end
end Abs.Y
