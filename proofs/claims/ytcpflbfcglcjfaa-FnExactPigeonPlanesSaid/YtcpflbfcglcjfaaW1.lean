/- What functions of this program compute, as contracts over plain data, with what the proofs need of them. No condition. -/
import Derived.Test.YtcpflbfcglcjfaaAbsLaws
import Derived.Test.YtcpflbfcglcjfaaChecked
import Derived.Shelf.SlSortCmp.Whole1
import Derived.Shelf.SlicesE.DeleteFunc
import Derived.Shelf.Slices.CompactI
import Derived.Shelf.Spec.SlicesGrow
import Derived.Shelf.SlicesG.Cmp
import Derived.LoopN
import Derived.Deep.RegionWith
import Derived.Ground.SlsfProg
import Derived.Ground.SlgfProg
import Derived.Ground.SlgcProg
import Derived.Ground.Names2Prog
import Derived.Ground.Names8Prog
set_option linter.all false
namespace Abs.Y
open Go Go.Proofs Abs
open Nat renaming reduceEqDiff → zqa, reduceLT → zqb, reduceAdd → zqc, reduceMul → zqd, reduceSub → zqe, reduceLeDiff → zqf, reduceSubDiff → zqg, reduceBEq → zqh
open Bool renaming not_eq_true' → zba, not_eq_false' → zbb, and_eq_true → zbc, or_eq_true → zbd, or_eq_false_iff → zbe
open Int renaming ofNat_lt → zia, ofNat_le → zib, not_lt → zic, not_le → zid
open Decidable renaming not_not → zda
set_option maxRecDepth 100000

def okCnf (v : Int) (cs : List (List Int)) : Bool := (okVars v && decide (cs.length ≤ 60)) && cs.all (okClause v)
theorem okCnf_bad {v : Int} {cs : List (List Int)} {i : Nat} (h : i < cs.length) (h' : okClause v (cs.getD i []) = false) : okCnf v cs = false := by
  rw [okCnf, all_false (z := []) h h', Bool.and_false]
theorem okCnf_good {v : Int} {cs : List (List Int)} (h : ∀ j, j < cs.length → okClause v (cs.getD j []) = true) : okCnf v cs = (okVars v && decide (cs.length ≤ 60)) := by
  rw [okCnf, all_true (z := []) h, Bool.and_true]
theorem isCnf_ok (v : Int) (cs : List (List Int)) (hl : cs.length ≤ 4294967296) (hc : ∀ j, (cs.getD j []).length ≤ 4294967296) :
    Ctr Try.prog 96 [.agg [.int .i64 v, .slice (cs.map D.ints)]] false (.d (.bool (okCnf v cs))) [] := by
  refine Ctr.of (n := 27) (rs := [.tmp 2]) Try.func96 rfl rfl Try.ntmps96 rfl rfl (by kernel_rfl) Try.checked.mixed ?_
  simp (disch := first | omega | decide +kernel) only [go_sem, zqa, zqb, zqc, zqd, zqe, ↓reduceIte, reduceCtorEq, zqf, zqg, zqh]
  refine Ok.loopC [17, 16, 15, 14, 13, 12, 11, 10, 9, 8, 5, 4, 3, 2, 0] (fun i => [(8, .d (.int .i64 (i : Nat)))]) cs.length (fun i => ∀ j, j < i → okClause v (cs.getD j []) = true) (by simp) (Wk.kk) ?_
  intro R i hN hE hi hI
  simp (disch := first | omega | decide +kernel) only [go_sem, zqa, zqb, zqc, zqd, zqe, ↓reduceIte, reduceCtorEq, zqf, zqg, zqh]
  (repeat' (first | ((first | (refine gsel_split (fun q' => ?_) (fun q' => ?_) <;> (have h' := q') <;> (try simp only [decide_eq_true_eq, decide_eq_false_iff_not, zba, zbb, bne_iff_ne, ne_eq, beq_iff_eq, bne_eq_false_iff_eq, beq_eq_false_iff_ne, zia, zib, zic, zid, zda, zbc, zbd, zbe, gt_iff_lt, ge_iff_le] at h')) | (have q' := trivial; first | refine callX_new (isClause_ok v _ (hc _)) rfl (by decide) ?_ | refine callY_new (isClause_ok v _ (hc _)) rfl ?_ | refine callX_new (varsOk_ok _) rfl (by decide) ?_ | refine callY_new (varsOk_ok _) rfl ?_ | refine hE _ _ ret_ne ?_ | refine hE _ _ exit_ne ?_)) <;> (try simp (disch := first | omega | decide +kernel) only [q', go_sem, zqa, zqb, zqc, zqd, zqe, ↓reduceIte, reduceCtorEq, zqf, zqg, zqh]) <;> clear q') | (refine hN _ ?_ ?_ Wk.kk) | (with_reducible refine And.intro ?_ ?_) | (with_reducible omega) | (exact ok_ints) | (exact cells_ints) | (exact no_mem) | (with_reducible exact plain_ints) | (refine le_maxLen ?_; omega) | (refine List.forall_mem_cons.2 ⟨?_, ?_⟩) | (simp only [go_sem, zqc, zqb, List.mem_cons, List.not_mem_nil, forall_eq]; done)))
  · rename_i h1
    rw [okCnf_bad h1 h']
  · exact all_succ hI h'
  · rw [okCnf_good fun j hj => hI j (by omega), h', Bool.true_and, decide_eq_decide.2 (by omega : (cs.length : Int) ≤ 60 ↔ cs.length ≤ 60)]
  · simp [okCnf, h']
def okEarlier (v : Int) (steps : List Step) (k i : Int) : Bool := (decide (0 ≤ i) && decide (i ≤ k - 1)) && okClause v (steps.getD i.toNat Step.z).c
end Abs.Y

namespace Abs.Y
open Go Go.Proofs Abs
open Nat renaming reduceEqDiff → zqa, reduceLT → zqb, reduceAdd → zqc, reduceMul → zqd, reduceSub → zqe, reduceLeDiff → zqf, reduceSubDiff → zqg, reduceBEq → zqh
open Bool renaming not_eq_true' → zba, not_eq_false' → zbb, and_eq_true → zbc, or_eq_true → zbd, or_eq_false_iff → zbe
open Int renaming ofNat_lt → zia, ofNat_le → zib, not_lt → zic, not_le → zid
open Decidable renaming not_not → zda
set_option maxRecDepth 100000

theorem clone_ok (xs : List Int) (hl : xs.length ≤ 4294967296) : Ctr Try.prog 99 [.ints xs] false (.sl 0) [(0, .arr 3 1 (xs.map (.int .i64)))] := by
  refine Ctr.of (n := 8) (rs := [.tmp 2]) Try.func99 rfl rfl Try.ntmps99 rfl rfl (by kernel_rfl) Try.checked.mixed ?_
  simp (disch := first | omega | decide +kernel) only [D.ints, go_sem, zqa, zqb, zqc, zqd, zqe, ↓reduceIte, reduceCtorEq, zqf, zqg, zqh]
  intro b hb
  cases b with
  | true =>
    obtain rfl : xs = [] := by cases xs with | nil => rfl | cons x r => simp at hb
    simp (disch := first | omega | decide +kernel) only [go_sem, zqa, zqb, zqc, zqd, zqe, ↓reduceIte, reduceCtorEq, zqf, zqg, zqh]
    (repeat' (first | ((first | (refine gsel_split (fun q' => ?_) (fun q' => ?_) <;> (have h' := q') <;> (try simp only [decide_eq_true_eq, decide_eq_false_iff_not, zba, zbb, bne_iff_ne, ne_eq, beq_iff_eq, bne_eq_false_iff_eq, beq_eq_false_iff_ne, zia, zib, zic, zid, zda, zbc, zbd, zbe, gt_iff_lt, ge_iff_le] at h')) | (have q' := trivial; first | refine hE _ _ ret_ne ?_ | refine hE _ _ exit_ne ?_)) <;> (try simp (disch := first | omega | decide +kernel) only [q', go_sem, zqa, zqb, zqc, zqd, zqe, ↓reduceIte, reduceCtorEq, zqf, zqg, zqh]) <;> clear q') | (refine hN _ ?_ ?_ Wk.kk) | (with_reducible refine And.intro ?_ ?_) | (with_reducible omega) | (exact ok_ints) | (exact cells_ints) | (exact no_mem) | (with_reducible exact plain_ints) | (refine le_maxLen ?_; omega) | (refine List.forall_mem_cons.2 ⟨?_, ?_⟩) | (simp only [go_sem, zqc, zqb, List.mem_cons, List.not_mem_nil, forall_eq]; done)))
    exact ret_sl 2 rfl rfl no_mem
  | false =>
    simp (disch := first | omega | decide +kernel) only [go_sem, zqa, zqb, zqc, zqd, zqe, ↓reduceIte, reduceCtorEq, zqf, zqg, zqh]
    (repeat' (first | ((first | (refine gsel_split (fun q' => ?_) (fun q' => ?_) <;> (have h' := q') <;> (try simp only [decide_eq_true_eq, decide_eq_false_iff_not, zba, zbb, bne_iff_ne, ne_eq, beq_iff_eq, bne_eq_false_iff_eq, beq_eq_false_iff_ne, zia, zib, zic, zid, zda, zbc, zbd, zbe, gt_iff_lt, ge_iff_le] at h')) | (have q' := trivial; first | refine hE _ _ ret_ne ?_ | refine hE _ _ exit_ne ?_)) <;> (try simp (disch := first | omega | decide +kernel) only [q', go_sem, zqa, zqb, zqc, zqd, zqe, ↓reduceIte, reduceCtorEq, zqf, zqg, zqh]) <;> clear q') | (refine hN _ ?_ ?_ Wk.kk) | (with_reducible refine And.intro ?_ ?_) | (with_reducible omega) | (exact ok_ints) | (exact cells_ints) | (exact no_mem) | (with_reducible exact plain_ints) | (refine le_maxLen ?_; omega) | (refine List.forall_mem_cons.2 ⟨?_, ?_⟩) | (simp only [go_sem, zqc, zqb, List.mem_cons, List.not_mem_nil, forall_eq]; done)))
    exact ret_sl 5 rfl rfl plain_ints
def putI (c : List Int) (l : Int) : List Int := c.takeWhile (fun x => decide (varI x < varI l)) ++ l :: c.dropWhile (fun x => decide (varI x < varI l))
def joinI : List Int → List Int → Option (List Int)
  | a, [] => some a
  | a, x :: r => if a.any (· == IntKind.i64.wrap (0 - x)) then none else joinI (if a.any (· == x) then a else putI a x) r
def optL (o : Option (List Int)) : List Int := match o with | some c => c | none => []
def resolveI (a b : List Int) (v : Int) : Option (List Int) :=
  if (a.any (· == v) && b.any (· == IntKind.i64.wrap (0 - v))) = true then joinI (a.filter fun l => varI l != v) (b.filter fun l => varI l != v) else none
end Abs.Y

namespace Go.Proofs
open Go.Shelf Go.RowKit Go.Lib Go.Sort
def Try.layS_ren : Go.Shelf.Ren := ⟨fun | 6 => 225 | 15 => 189 | 14 => 264 | 28 => 248 | 29 => 249 | 20 => 278 | 21 => 279 | 22 => 280 | 23 => 281 | 24 => 282 | 25 => 283 | 26 => 284 | 27 => 285 | 46 => 291 | 47 => 270 | 48 => 271 | 49 => 292 | 50 => 293 | 57 => 296 | n => n, fun | 22 => 52 | 24 => 3 | 25 => 105 | 3 => 3 | 39 => 183 | 0 => 0 | 53 => 222 | 55 => 133 | 4 => 4 | 46 => 216 | 45 => 215 | 50 => 69 | 5 => 5 | 9 => 9 | 66 => 235 | 70 => 239 | 76 => 248 | 77 => 136 | n => n, fun | n => n⟩
theorem Try.layS : Go.Proofs.SlLaysF.n6 Try.prog Try.layS_ren := {
  mixed := by kernel_rfl
  f6 := ⟨Try.f225.name, by decide, Try.func225.trans (congrArg some (by kernel_rfl))⟩
  f14 := ⟨Try.f264.name, by decide, Try.func264.trans (congrArg some (by kernel_rfl))⟩
  f15 := Try.func189.trans (congrArg some (by kernel_rfl))
  f20 := ⟨Try.f278.name, by decide, Try.func278.trans (congrArg some (by kernel_rfl))⟩
  f21 := ⟨Try.f279.name, by decide, Try.func279.trans (congrArg some (by kernel_rfl))⟩
  f22 := ⟨Try.f280.name, by decide, Try.func280.trans (congrArg some (by kernel_rfl))⟩
  f23 := ⟨Try.f281.name, by decide, Try.func281.trans (congrArg some (by kernel_rfl))⟩
  f24 := ⟨Try.f282.name, by decide, Try.func282.trans (congrArg some (by kernel_rfl))⟩
  f25 := ⟨Try.f283.name, by decide, Try.func283.trans (congrArg some (by kernel_rfl))⟩
  f26 := ⟨Try.f284.name, by decide, Try.func284.trans (congrArg some (by kernel_rfl))⟩
  f27 := ⟨Try.f285.name, by decide, Try.func285.trans (congrArg some (by kernel_rfl))⟩
  f28 := Try.func248.trans (congrArg some (by kernel_rfl))
  f29 := Try.func249.trans (congrArg some (by kernel_rfl))
  f46 := ⟨Try.f291.name, by decide, Try.func291.trans (congrArg some (by kernel_rfl))⟩
  f47 := Try.func270.trans (congrArg some (by kernel_rfl))
  f48 := Try.func271.trans (congrArg some (by kernel_rfl))
  f49 := ⟨Try.f292.name, by decide, Try.func292.trans (congrArg some (by kernel_rfl))⟩
  f50 := ⟨Try.f293.name, by decide, Try.func293.trans (congrArg some (by kernel_rfl))⟩
  f57 := ⟨Try.f296.name, by decide, Try.func296.trans (congrArg some (by kernel_rfl))⟩
  t0 := Try.underlying0
  a0 := Try.isAgg0
  z0 := Try.sizeOf0
  v0 := Try.zeroValue0
  t3 := Try.underlying3
  a3 := Try.isAgg3
  z3 := Try.sizeOf3
  v3 := Try.zeroValue3
  t4 := Try.underlying4
  a4 := Try.isAgg4
  z4 := Try.sizeOf4
  v4 := Try.zeroValue4
  t5 := Try.underlying5
  a5 := Try.isAgg5
  z5 := Try.sizeOf5
  v5 := Try.zeroValue5
  t9 := Try.underlying9
  a9 := Try.isAgg9
  z9 := Try.sizeOf9
  v9 := Try.zeroValue9
  t22 := Try.underlying52
  a22 := Try.isAgg52
  z22 := Try.sizeOf52
  v22 := Try.zeroValue52
  a24 := Try.isAgg3
  z24 := Try.sizeOf3
  t25 := Try.underlying105
  a25 := Try.isAgg105
  z25 := Try.sizeOf105
  v25 := Try.zeroValue105
  t39 := Try.underlying183
  a39 := Try.isAgg183
  z39 := Try.sizeOf183
  v39 := Try.zeroValue183
  t45 := Try.underlying215
  a45 := Try.isAgg215
  z45 := Try.sizeOf215
  v45 := Try.zeroValue215
  t46 := Try.underlying216
  a46 := Try.isAgg216
  z46 := Try.sizeOf216
  v46 := Try.zeroValue216
  t50 := Try.underlying69
  a50 := Try.isAgg69
  z50 := Try.sizeOf69
  v50 := Try.zeroValue69
  t53 := Try.underlying222
  a53 := Try.isAgg222
  z53 := Try.sizeOf222
  v53 := Try.zeroValue222
  t55 := Try.underlying133
  a55 := Try.isAgg133
  z55 := Try.sizeOf133
  v55 := Try.zeroValue133
  t66 := Try.underlying235
  a66 := Try.isAgg235
  z66 := Try.sizeOf235
  v66 := Try.zeroValue235
  t70 := Try.underlying239
  a70 := Try.isAgg239
  z70 := Try.sizeOf239
  v70 := Try.zeroValue239
  t76 := Try.underlying248
  a76 := Try.isAgg248
  z76 := Try.sizeOf248
  v76 := Try.zeroValue248
  t77 := Try.underlying136
  a77 := Try.isAgg136
  z77 := Try.sizeOf136
  v77 := Try.zeroValue136 }
def Try.layD_ren : Go.Shelf.Ren := ⟨fun | 10 => 238 | 6 => 224 | n => n, fun | 22 => 52 | 23 => 3 | 25 => 29 | 3 => 3 | 4 => 4 | 0 => 0 | n => n, fun | n => n⟩
def Try.layG_ren : Go.Shelf.Ren := ⟨fun | 4 => 237 | n => n, fun | 22 => 52 | 25 => 3 | 3 => 3 | 4 => 4 | 9 => 9 | 20 => 20 | 0 => 0 | n => n, fun | n => n⟩
def Try.layC_ren : Go.Shelf.Ren := ⟨fun | 20 => 226 | n => n, fun | 22 => 52 | 3 => 3 | 4 => 4 | 0 => 0 | n => n, fun | n => n⟩
theorem Try.layC : Go.Proofs.Lays2.n20 Try.prog Try.layC_ren := {
  mixed := by kernel_rfl
  f20 := Try.func226.trans (congrArg some (by kernel_rfl))
  t0 := Try.underlying0
  a0 := Try.isAgg0
  z0 := Try.sizeOf0
  v0 := Try.zeroValue0
  t3 := Try.underlying3
  a3 := Try.isAgg3
  z3 := Try.sizeOf3
  v3 := Try.zeroValue3
  t4 := Try.underlying4
  a4 := Try.isAgg4
  z4 := Try.sizeOf4
  v4 := Try.zeroValue4
  t22 := Try.underlying52
  a22 := Try.isAgg52
  z22 := Try.sizeOf52
  v22 := Try.zeroValue52
  i3 := by kernel_rfl }
def Try.layP_ren : Go.Shelf.Ren := ⟨fun | 5 => 191 | 7 => 250 | n => n, fun | 22 => 3 | 3 => 3 | 4 => 4 | n => n, fun | n => n⟩
theorem Try.layP : Go.Proofs.SlLaysC2.n5 Try.prog Try.layP_ren := {
  mixed := by kernel_rfl
  f5 := ⟨Try.f191.name, by decide, Try.func191.trans (congrArg some (by kernel_rfl))⟩
  f7 := ⟨Try.f250.name, by decide, Try.func250.trans (congrArg some (by kernel_rfl))⟩
  t3 := Try.underlying3
  a3 := Try.isAgg3
  z3 := Try.sizeOf3
  v3 := Try.zeroValue3
  t4 := Try.underlying4
  a4 := Try.isAgg4
  z4 := Try.sizeOf4
  v4 := Try.zeroValue4
  t22 := Try.underlying3
  a22 := Try.isAgg3
  z22 := Try.sizeOf3
  v22 := Try.zeroValue3 }

theorem Try.abs_w (n : Int) (W : World) : Calls Try.prog 155 #[.int .i64 n] W fun e w' => e = .returned (.int .i64 (max n (wrap64 (-n)))) ∧ w' = W := by
  generalize hr : max n (wrap64 (-n)) = r
  go_enter Try.func155, Try.ntmps155
  go_wp2
  go_ret
  exact ⟨rfl, rfl⟩
def cmpLit (a b : Int) : Int := if compareInt (max a (wrap64 (-a))) (max b (wrap64 (-b))) ≠ 0 then compareInt (max a (wrap64 (-a))) (max b (wrap64 (-b))) else compareInt b a
theorem Try.or_w (x y : Int) (W : World) (b : Nat) (hx : W.cell? ⟨b, 0, none⟩ = some (.int .i64 x)) (hy : W.cell? ⟨b, 1, none⟩ = some (.int .i64 y)) :
    Calls Try.prog 190 #[.slice (some ⟨b, 0, none⟩) 2 2] W fun e w' => e = .returned (.int .i64 (if x ≠ 0 then x else y)) ∧ ∃ q, w' = W.drewN q := by
  generalize hr : (if x ≠ 0 then x else y) = r
  go_enter Try.func190, Try.ntmps190
  go_wp2
  refine wp_loop_rounds 3 ?_
  unfold Code.rounds
  go_wp2
  · rename_i h2
    rw [if_pos (by simpa using h2)] at hr
    go_ret
    exact ⟨by rw [hr]; rfl, 0, rfl⟩
  · rename_i h2
    have hx0 : x = 0 := by simpa using h2
    rw [if_neg (by simp [hx0])] at hr
    unfold Code.rounds
    go_wp2
    · go_ret
      exact ⟨rfl, 0, rfl⟩
    · rename_i h3
      have hr0 : r = 0 := by simpa using h3
      subst hr0
      unfold Code.rounds
      go_wp2
      go_ret
      exact ⟨rfl, 0, rfl⟩
theorem cell_alloc2 (w : World) (u v : Value) (t : TypeId) : (w.alloc (.cells #[u, v] t)).cell? ⟨w.heap.size, 0, none⟩ = some u ∧ (w.alloc (.cells #[u, v] t)).cell? ⟨w.heap.size, 1, none⟩ = some v := by
  have h : (w.alloc (.cells #[u, v] t)).heap[w.heap.size]? = some (.cells #[u, v] t) := by
    show (w.heap.push _)[w.heap.size]? = _
    simp
  constructor <;> (unfold World.cell?; rw [h]; rfl)
theorem Try.cmpLit_w (a b : Int) (W : World) : Calls Try.prog 193 #[.int .i64 a, .int .i64 b] W fun e w' => e = .returned (.int .i64 (cmpLit a b)) ∧ ∃ q os, w' = grow (W.drewN q) os := by
  have h1 := Try.abs_w
  have h2 := fun x y => AnyG.cmp_Compare_int Try.layP x y
  change ∀ x y w, Calls Try.prog 191 _ _ _ at h2
  go_enter Try.func193, Try.ntmps193
  go_wp2_with (first | (go_at_call 155; refine (h1 _ _).mono ?_; rintro e w' ⟨rfl, rfl⟩) | (go_at_call 191; refine (h2 _ _ _).mono ?_; rintro e w' ⟨rfl, rfl⟩) | (go_at_call 190; refine (Try.or_w _ _ _ _ (cell_alloc2 _ _ _ _).1 (cell_alloc2 _ _ _ _).2).mono ?_; rintro e w' ⟨rfl, q, rfl⟩))
  all_goals (go_ret; rw [alloc_eq_grow]; exact ⟨by simp_all [cmpLit], q, _, rfl⟩)
end Go.Proofs
