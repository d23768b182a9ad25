/- What functions of this program compute, as contracts over plain data, with what the proofs need of them. No condition. -/
import Derived.Test.YtgnnmgmgnkbmbaaGreatE2
import Derived.Test.YtgnnmgmgnkbmbaaGreatW3
import Derived.Test.YtgnnmgmgnkbmbaaGreatAbsOwn
import Derived.Lib.RowBridge
set_option linter.all false
namespace Abs.Y
open Go Go.Proofs Abs Go.Sort Go.Shelf Go.Lib Go.RowKit
set_option maxRecDepth 100000

/-! ### The library's sort at clauses -/
def sortC (cs : List (List Int)) : List (List Int) := cs.mergeSort leC
/-- The order of the elements at two places. -/
def cfC (cs : List (List Int)) (i j : Nat) : Int := cmpCI (cs.getD i []) (cs.getD j [])
theorem sm_nil : Sm [] := fun x hx => by cases hx
theorem sm_getD {cs : List (List Int)} (hs : ∀ x ∈ cs, Sm x) (i : Nat) : Sm (cs.getD i []) := by
  by_cases h : i < cs.length
  · exact hs _ (getD_mem h)
  · rw [List.getD_eq_getElem?_getD, List.getElem?_eq_none (by omega)]; exact sm_nil
theorem cfC_lt (cs : List (List Int)) (i j : Nat) : ltOf (cfC cs) i j = befI (cs.getD i []) (cs.getD j []) := rfl
theorem cfC_swo {cs : List (List Int)} (hs : ∀ x ∈ cs, Sm x) : SWO (ltOf (cfC cs)) where
  irrefl i := by rw [cfC_lt]; exact befI_self (sm_getD hs i)
  trans i j k h1 h2 := by
    rw [cfC_lt] at *; exact bef_trans (sm_getD hs i) (sm_getD hs j) (sm_getD hs k) h1 h2
  ntrans i j k h1 h2 := by
    rw [cfC_lt] at *
    have si := sm_getD hs i
    have sj := sm_getD hs j
    have sk := sm_getD hs k
    cases h : befI (cs.getD i []) (cs.getD k []) with
    | false => rfl
    | true =>
      rcases bef_total si sj with h' | h' | h'
      · rw [h1] at h'; cases h'
      · have := bef_trans sj si sk h' h
        rw [h2] at this; cases this
      · rw [h'] at h; rw [h2] at h; cases h
theorem leC_anti {x y : List Int} (sx : Sm x) (sy : Sm y) (h1 : leC x y = true) (h2 : leC y x = true) : x = y := by
  unfold leC at *
  simp only [Bool.not_eq_true'] at *
  rcases bef_total sx sy with h' | h' | h'
  · rw [h2] at h'; cases h'
  · rw [h1] at h'; cases h'
  · exact h'
theorem sorted_uniq : ∀ {l1 l2 : List (List Int)}, (∀ x ∈ l1, Sm x) → l1.Perm l2 → l1.Pairwise (fun x y => leC x y = true) → l2.Pairwise (fun x y => leC x y = true) → l1 = l2
  | [], l2, _, hp, _, _ => by rw [List.nil_perm.1 hp]
  | x :: r, [], _, hp, _, _ => absurd hp.length_eq (by simp)
  | x :: r, y :: s, hs, hp, h1, h2 => by
    have p1 := List.pairwise_cons.1 h1
    have p2 := List.pairwise_cons.1 h2
    have sx := hs x (by simp)
    have sy : Sm y := hs y (hp.mem_iff.2 (by simp))
    have hxy : x = y := by
      rcases List.mem_cons.1 (hp.mem_iff.1 (show x ∈ x :: r by simp)) with e | hx
      · exact e
      · rcases List.mem_cons.1 (hp.mem_iff.2 (show y ∈ y :: s by simp)) with e | hy
        · exact e.symm
        · exact leC_anti sx sy (p1.1 y hy) (p2.1 x hx)
    subst hxy
    rw [sorted_uniq (fun z hz => hs z (by simp [hz])) (List.Perm.cons_inv hp) p1.2 p2.2]
theorem sortC_perm (cs : List (List Int)) : (sortC cs).Perm cs := List.mergeSort_perm cs leC
theorem sortC_length (cs : List (List Int)) : (sortC cs).length = cs.length := (sortC_perm cs).length_eq
/-- leC on all lists, as core's sort asks for it: clauses out of range count as the empty one. -/
theorem sortC_sorted {cs : List (List Int)} (hs : ∀ x ∈ cs, Sm x) : (sortC cs).Pairwise fun x y => leC x y = true := by
  -- sort the places, then read
  have h := List.pairwise_mergeSort (le := fun (i j : Nat) => leC (cs.getD i []) (cs.getD j [])) (fun i j k h1 h2 => leC_trans (sm_getD hs i) (sm_getD hs j) (sm_getD hs k) h1 h2) (fun i j => leC_total (sm_getD hs i) (sm_getD hs j)) (List.range cs.length)
  have e : sortC cs = ((List.range cs.length).mergeSort fun i j => leC (cs.getD i []) (cs.getD j [])).map fun i => cs.getD i [] := by
    have h1 : cs = (List.range cs.length).map fun i => cs.getD i [] := by
      apply List.ext_getElem (by simp)
      intro i h1 h2
      simp [List.getD_eq_getElem?_getD, h1]
    rw [List.map_mergeSort (r := fun i j => leC (cs.getD i []) (cs.getD j [])) (s := leC) (fun _ _ _ _ => rfl), ← h1]
    rfl
  rw [e, List.pairwise_map]
  exact h
theorem sortC_sm {cs : List (List Int)} (hs : ∀ x ∈ cs, Sm x) : ∀ x ∈ sortC cs, Sm x := fun x hx => hs x ((sortC_perm cs).mem_iff.1 hx)
theorem range_map_getD (cs : List (List Int)) : (List.range cs.length).map (fun i => cs.getD i []) = cs := by
  apply List.ext_getElem (by simp)
  intro i h1 h2
  simp [List.getD_eq_getElem?_getD, h2]
theorem bitsLen_ok (n : Nat) (hn : n ≤ 4294967296) : Ctr Tryz.prog 122 [.int .u64 (n : Int)] false (.d (.int .i64 (Lib.bitLen n : Nat))) [] := by
  refine ⟨⟨_, Tryz.func122, by kernel_rfl, by kernel_rfl⟩, fun S w vs hl hr => ?_⟩
  obtain ⟨v, rfl⟩ : ∃ v, vs = [v] := by
    match vs, hl with
    | [a], _ => exact ⟨a, rfl⟩
  have h := hr 0 (by simp)
  simp only [List.getD_cons_zero] at h
  cases h
  refine (Tryz.len_w n hn w).mono fun en w' ⟨he, hw⟩ => ⟨_, he, ?_, ?_⟩
  · subst hw; exact ⟨rfl, rfl, rfl, Nat.le_refl _, Nat.le_refl _, fun _ _ _ => rfl, Nat.le_refl _⟩
  · exact ⟨fun _ => Go.undef, fun _ _ => False, .d (.int _ _), fun j o hj => by simp [lk] at hj, fun j o g hj => by simp [lk] at hj, fun j j' o o' g hj => by simp [lk] at hj⟩
theorem pdqC_ok (cs : List (List Int)) (L : Nat) (hL : L ≤ 4294967296) (h0 : cs ≠ []) (hn : cs.length ≤ 4294967296) (hl : ∀ x ∈ cs, x.length ≤ 4294967296) (hs : ∀ x ∈ cs, Sm x) :
    CtrM Tryz.prog 121 [.sl 0, .d (.int .i64 0), .d (.int .i64 (cs.length : Nat)), .d (.int .i64 (L : Nat)), .fn (.func 108) []] [(0, .arr 43 1 (cs.map D.ints))] [0] true (.tup []) [(0, .arr 43 1 ((sortC cs).map D.ints))] := by
  have hone : ∀ x ∈ cs.map D.ints, x.one = true := fun x hx => by obtain ⟨c, _, rfl⟩ := List.mem_map.1 hx; rfl
  refine CtrM.rowD (es := cs.map D.ints) (es' := (sortC cs).map D.ints) (.slice none 0 0) false ⟨_, Tryz.func121, by kernel_rfl, by kernel_rfl⟩ hone (by simp [sortC_length]) (fun _ => by simp [sortC_length]) fun S β w rv hl' hr => ?_
  obtain ⟨v0, v1, v2, v3, rfl⟩ : ∃ v0 v1 v2 v3, rv = [v0, v1, v2, v3] := by
    match rv, hl' with
    | [a, b, c, d], _ => exact ⟨a, b, c, d, rfl⟩
  have e0 : v0 = .int .i64 0 := by
    have := hr 0 (by simp)
    simp only [List.getD_cons_zero] at this
    cases this with
    | d h => cases h; rfl
  have e1 : v1 = .int .i64 (cs.length : Nat) := by
    have := hr 1 (by simp)
    simp only [List.getD_cons_zero, List.getD_cons_succ] at this
    cases this with
    | d h => cases h; rfl
  have e2 : v2 = .int .i64 (L : Nat) := by
    have := hr 2 (by simp)
    simp only [List.getD_cons_zero, List.getD_cons_succ] at this
    cases this with
    | d h => cases h; rfl
  have e3 : v3 = .func (.func 108) #[] #[] := by
    have := hr 3 (by simp)
    simp only [List.getD_cons_zero, List.getD_cons_succ] at this
    cases this with
    | fn h1 h2 => obtain rfl := List.eq_nil_of_length_eq_zero h1; rfl
  subst e0 e1 e2 e3
  refine ⟨fun h => absurd (List.map_eq_nil_iff.1 h) h0, fun g cap xs hS hxl hxr hH hg hcap _ => ?_⟩
  have eg : ∀ args w, (callFunc 108 args).run Tryz.prog w = .ok (.enter 108 args) w := enters_of Tryz.func108 (by kernel_rfl) rfl
  have hlD : ∀ i, (cs.getD i []).length ≤ 4294967296 := fun i => by
    by_cases h : i < cs.length
    · exact hl _ (getD_mem h)
    · rw [List.getD_eq_getElem?_getD, List.getElem?_eq_none (by omega)]; simp
  have hgd : ∀ i, (cs.map D.ints).getD i (D.ints []) = D.ints (cs.getD i []) := fun i => by
    simp only [List.getD_eq_getElem?_getD, List.getElem?_map]
    cases cs[i]? <;> rfl
  have hc : CmpLays1 Tryz.prog 108 #[] (mkR (.slice none 0 0) xs) (cfC cs) g 0 (Array.range (cs.map D.ints).length).size w :=
    Ctr.cmpLays (es := cs.map D.ints) (zd := D.ints []) (fun w => .nil _) (fun i j => by
      rw [hgd, hgd]; exact compareClauses_ok _ _ (hlD i) (hlD j)) hS hxl hxr
  have h := Any.pdqsortCmpFunc_all Tryz.layQ (mkR (.slice none 0 0) xs) (cfC cs) 108 #[] (cfC_swo hs) g 0 cap (Array.range (cs.map D.ints).length) w eg hc ⟨mkR_one rfl hone hxl hxr, hH, hg⟩
    ((Array.range (cs.map D.ints).length).size + 1) 0 (Array.range (cs.map D.ints).length).size L (Array.range (cs.map D.ints).length) w (by omega) rfl (SW.start hH) (Nat.zero_le _) (Nat.le_refl _) (by simp; omega) (by omega) (Or.inl rfl)
  have hps := pdq_sorts (ltOf (cfC cs)) (cfC_swo hs) (Array.range (cs.map D.ints).length) 0 (Array.range (cs.map D.ints).length).size L true true (Nat.zero_le _) (Nat.le_refl _) (Or.inl rfl)
  generalize pdq (ltOf (cfC cs)) (Array.range (cs.map D.ints).length) 0 (Array.range (cs.map D.ints).length).size L true true = d' at *
  obtain ⟨hp, hso⟩ := hps
  simp only [Array.size_range, List.length_map] at h hp hso ⊢
  refine Calls.mono h fun en w' ⟨he, n, os, hw⟩ => ⟨he, n, d', os, ?_, hw⟩
  obtain ⟨hp1, _, hp3⟩ := hp
  simp only [Array.size_range] at hp1
  have hx1 : d'.extract 0 cs.length = d' := by rw [← hp1]; simp
  have hx2 : (Array.range cs.length).extract 0 cs.length = Array.range cs.length := by
    have : (Array.range cs.length).size = cs.length := by simp
    conv => lhs; rw [← this]
    simp
  rw [hx1, hx2, Array.toList_range] at hp3
  have htake : d'.toList.take ((sortC cs).map D.ints).length = d'.toList := by
    rw [List.length_map, sortC_length, ← hp1, ← Array.length_toList, List.take_length]
  have hcont : d'.toList.map (fun i => cs.getD i []) = sortC cs := by
    have p1 : (d'.toList.map fun i => cs.getD i []).Perm cs := by
      have := hp3.map fun i => cs.getD i []
      rwa [range_map_getD] at this
    refine sorted_uniq (fun x hx => hs x (p1.mem_iff.1 hx)) (p1.trans (sortC_perm cs).symm) ?_ (sortC_sorted hs)
    rw [List.pairwise_map, List.pairwise_iff_getElem]
    intro i j hi hj hij
    have := hso i j (Nat.zero_le _) hij (by rw [Array.length_toList] at hj; omega)
    rw [cfC_lt] at this
    have hi' : i < d'.size := by rw [← Array.length_toList]; exact hi
    have hj' : j < d'.size := by rw [← Array.length_toList]; exact hj
    rw [getElem!_pos d' i hi', getElem!_pos d' j hj'] at this
    simp only [Array.getElem_toList]
    unfold leC
    rw [this]; rfl
  refine ⟨by simp [hp1], by simp [hp1, sortC_length], fun i hi => ?_, ?_⟩
  · rw [htake] at hi
    have := hp3.mem_iff.1 hi
    simpa using this
  · rw [htake, ← hcont, List.map_map]
    apply List.map_congr_left
    intro i hi
    have : i < cs.length := by have := hp3.mem_iff.1 hi; simpa using this
    simp [List.getD_eq_getElem?_getD, this]
theorem bitLen_le' (n : Nat) (hn : n ≤ 4294967296) : Lib.bitLen n ≤ 4294967296 := Nat.le_trans (Lib.bitLen_le n 62 (by omega) (by omega)) (by omega)
theorem sortClauses_ok (cs : List (List Int)) (h0 : cs ≠ []) (hn : cs.length ≤ 4294967296) (hl : ∀ x ∈ cs, x.length ≤ 4294967296) (hs : ∀ x ∈ cs, Sm x) :
    CtrM Tryz.prog 107 [.sl 0, .fn (.func 108) []] [(0, .arr 43 1 (cs.map D.ints))] [0] true (.tup []) [(0, .arr 43 1 ((sortC cs).map D.ints))] := by
  have c1 := bitsLen_ok cs.length hn
  have c2 := pdqC_ok cs (Lib.bitLen cs.length) (bitLen_le' _ hn) h0 hn hl hs
  have hw : IntKind.u64.wrap (cs.length : Int) = (cs.length : Nat) := by simp [IntKind.wrap, IntKind.bits, IntKind.signed]; omega
  refine CtrM.of (n := 14) (rs := []) Tryz.func107 rfl rfl Tryz.ntmps107 rfl rfl (by kernel_rfl) Tryz.checked.mixed ?_
  intro u
  simp (disch := first | omega | decide +kernel) only [hw, el_ints, el_intss, el_steps, wrap_of, Int.toNat_natCast, toNat_pred, Int.toNat_zero, Nat.sub_zero, List.drop_zero, ← List.map_take, ← List.map_drop, go_sem, Nat.reduceEqDiff, Nat.reduceLT, Nat.reduceAdd, Nat.reduceMul, Nat.reduceSub, ↓reduceIte, reduceCtorEq, Nat.reduceLeDiff, Nat.reduceSubDiff, Nat.reduceBEq]
  (repeat' (first | (refine gsel_split (fun h => ?_) (fun h => ?_) <;> (have h' := h) <;> (try simp only [decide_eq_true_eq, decide_eq_false_iff_not, Bool.not_eq_true', Bool.not_eq_false', bne_iff_ne, ne_eq, beq_iff_eq, bne_eq_false_iff_eq, beq_eq_false_iff_ne, Int.ofNat_lt, Int.ofNat_le, Int.not_lt, Int.not_le, Decidable.not_not, Bool.and_eq_true, Bool.or_eq_true, Bool.or_eq_false_iff, gt_iff_lt, ge_iff_le] at h') <;> simp (disch := first | omega | decide +kernel) only [h, el_ints, el_intss, el_steps, wrap_of, Int.toNat_natCast, toNat_pred, Int.toNat_zero, Nat.sub_zero, List.drop_zero, ← List.map_take, ← List.map_drop, hw, go_sem, Nat.reduceEqDiff, Nat.reduceLT, Nat.reduceAdd, Nat.reduceMul, Nat.reduceSub, ↓reduceIte, reduceCtorEq, Nat.reduceLeDiff, Nat.reduceSubDiff, Nat.reduceBEq] <;> clear h) | ((first | refine callX_new (c1) rfl (by decide) ?_ | refine callY_new (c1) rfl ?_ | refine hE _ _ ret_ne ?_ | refine hE _ _ exit_ne ?_) <;> try simp (disch := first | omega | decide +kernel) only [el_ints, el_intss, el_steps, wrap_of, Int.toNat_natCast, toNat_pred, Int.toNat_zero, Nat.sub_zero, List.drop_zero, ← List.map_take, ← List.map_drop, hw, go_sem, Nat.reduceEqDiff, Nat.reduceLT, Nat.reduceAdd, Nat.reduceMul, Nat.reduceSub, ↓reduceIte, reduceCtorEq, Nat.reduceLeDiff, Nat.reduceSubDiff, Nat.reduceBEq]) | (refine hN _ ?_ ?_ (Wk.auto (by simp [extraK, lk, killL, St.kill, wipeO, wipeS, AV.has, AV.hasL, AO.wipe, List.map_set, updSt, insL, dropS, ins]) (by simp [extraK, lk, killL, St.kill, wipeO, wipeS, AV.has, AV.hasL, AO.wipe, List.map_set, updSt, insL, dropS, ins]))) | (with_reducible refine And.intro ?_ ?_) | (with_reducible omega) | (exact ok_ints) | (exact cells_ints) | (exact no_mem) | (with_reducible exact plain_ints) | (refine le_maxLen ?_; omega) | (refine List.forall_mem_cons.2 ⟨?_, ?_⟩) | (simp only [go_sem, List.length_cons, List.length_nil, Nat.reduceAdd, Nat.reduceLT, Nat.zero_lt_succ, and_self, List.mem_cons, List.not_mem_nil, or_false, forall_eq]; done)))
  refine callX_shareK 0 c2 ⟨.inl rfl, .inl rfl, .inl rfl, .inl rfl, .inl rfl, trivial⟩ rfl (by simp [dstB]) ?_
  simp (disch := first | omega | decide +kernel) only [hw, el_ints, el_intss, el_steps, wrap_of, Int.toNat_natCast, toNat_pred, Int.toNat_zero, Nat.sub_zero, List.drop_zero, ← List.map_take, ← List.map_drop, go_sem, Nat.reduceEqDiff, Nat.reduceLT, Nat.reduceAdd, Nat.reduceMul, Nat.reduceSub, ↓reduceIte, reduceCtorEq, Nat.reduceLeDiff, Nat.reduceSubDiff, Nat.reduceBEq]
  exact retM_n rfl rfl rfl (.inl rfl)
end Abs.Y
